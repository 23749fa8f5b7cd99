/- Printed by a program of ours: each Go function computes its Lean function. -/
import Derived.Test.YteipbimepilcfaaGreatDoorProg
import Derived.Test.YteipbimepilcfaaGreatDoorWRulesWalk1
namespace Go.Proofs.YteipbimepilcfaaGreatDoor
open Eng Tryz
open Go.RowKit (Below)
set_option linter.unusedVariables false
set_option linter.unusedSimpArgs false

set_option maxRecDepth 100000
set_option maxHeartbeats 1000000
variable {Ψ Φ : Hp} {pv0_0 pv1_0 pv1_1 pv1_2 pv0 pv0_1 pv0_2 : Value} {pG0_0 pG1_0 pG1_1 pG1_2 pG0 pG0_1 pG0_2 : List Nat} {pb0 : Nat} (N : Nat)
theorem m_s_l9Draw_ok (w0 : Base Ψ Φ [[pb0]].flatten) (p0 : Tl1Cur) (p1 : ByteArray) (ph0_0 : RSl (RI .u8) 1 Ψ pG0_0 pv0_0 p0.b) (pp0 : Φ pb0 = some (.cells #[pv0_0, iV p0.i, iV p0.h] 107 (0, 0))) {r : TRule × Tl1Cur} (h : m_s_l9Draw N p0 p1 = some r) :
  Calls prog 73 [pQ pb0, .string p1].toArray w0.w (PostG Φ w0.w [[pb0]].flatten (fun Φ' Fs v => ∃ (sr_0_0 : Value) (Dr_0_0 : List Nat) (sr_0_1 : Value) (sr_0_2 : Value) (Dr_0_2 : List Nat), v = .agg [.string r.1.Name, iV r.1.Sal, sr_0_0, sr_0_1, sr_0_2].toArray ∧ Fs = [ob sr_0_0, Dr_0_0, ob sr_0_1, ob sr_0_2, Dr_0_2, [pb0]] ∧ OSl OTPat 35 3 Φ' Dr_0_0 sr_0_0 r.1.Pats ∧ OSl RTCond 62 11 Φ' [] sr_0_1 r.1.Conds ∧ OSl OTAct 66 5 Φ' Dr_0_2 sr_0_2 r.1.Acts ∧ r.2.b = p0.b ∧ Φ' pb0 = some (.cells #[pv0_0, iV r.2.i, iV r.2.h] 107 (0, 0)))) := by
 refine eL func73 rfl ntmps73 rfl (L := [[pb0]]) w0 (fun hF => ?_)
 unfold m_s_l9Draw at h
 refine sr <| lnz Zr_28 rfl fun b_1 => arr 5 [] rfl ?_
 have rc1 : RC (RI .i64) 1 Φ ([[], [], [], [], []] : List (List Nat)) [iV 0, iV 0, iV 5, iV (-5), iV 100] ([0, 0, 5, (-5), 100] : List Int) := RC.cons (c := [iV 0]) (cells := [iV 0, iV 5, iV (-5), iV 100]) ⟨rfl, rfl⟩ rfl (RC.cons (c := [iV 0]) (cells := [iV 5, iV (-5), iV 100]) ⟨rfl, rfl⟩ rfl (RC.cons (c := [iV 5]) (cells := [iV (-5), iV 100]) ⟨rfl, rfl⟩ rfl (RC.cons (c := [iV (-5)]) (cells := [iV 100]) ⟨rfl, rfl⟩ rfl (RC.cons (c := [iV 100]) (cells := []) ⟨rfl, rfl⟩ rfl (RC.nil _ _ _)))))
 refine le' (e_lit (vs := [(0, iV 0), (1, iV 0), (2, iV 5), (3, iV (-5)), (4, iV 100)]) (C := #[iV 0, iV 0, iV 5, iV (-5), iV 100]) RI.lasts Sl_156 Zr_3 rfl rfl rfl rfl (fill_made MC_3_5 (fill_cons (C' := [iV 0, iV 0, iV 0, iV 0, iV 0]) rfl rfl rfl rfl rfl (fill_cons (C' := [iV 0, iV 0, iV 0, iV 0, iV 0]) rfl rfl rfl rfl rfl (fill_cons (C' := [iV 0, iV 0, iV 5, iV 0, iV 0]) rfl rfl rfl rfl rfl (fill_cons (C' := [iV 0, iV 0, iV 5, iV (-5), iV 0]) rfl rfl rfl rfl rfl (fill_cons (C' := [iV 0, iV 0, iV 5, iV (-5), iV 100]) rfl rfl rfl rfl rfl (fill_nil))))))) rfl rc1 rfl (by simpa using Kw.nil)) rfl ?_
 rintro v1 Φ_1 D1 ⟨fr1, h1⟩
 replace h1 : OSl (RI .i64) 3 1 Φ_1 [] v1 ([0, 0, 5, (-5), 100] : List Int) := by simpa using h1
 replace pp0 := fr1 _ _ (by simp) pp0
 refine kcb [1] h rfl rfl rfl rfl (fun b ap z q => m_s_l1Int_ok N b p0 ([0, 0, 5, (-5), 100] : List Int) (ph0_0.y z) pp0 (h1.rsl.x (Dj.app (ap.q 0 rfl) dN)) q) ?_
 rintro x1 h v2 Φ_2 F1 ⟨ap1, fr2, rfl, rfl, e1, h2⟩
 refine lq (q_build (vs := [(0, .string p1), (1, iV x1.1)]) (C := #[.string p1, iV x1.1, .slice none 0 0, .slice none 0 0, .slice none 0 0]) Pl_28 Zr_28 rfl (fill_cons (C' := [.string p1, iV 0, .slice none 0 0, .slice none 0 0, .slice none 0 0]) rfl rfl rfl rfl rfl (fill_cons (C' := [.string p1, iV x1.1, .slice none 0 0, .slice none 0 0, .slice none 0 0]) rfl rfl rfl rfl rfl (fill_nil)))) rfl <| lnz Zr_28 rfl fun b_2 => soN 0 Sz_28 rfl ⟨rfl, rfl, rfl, rfl, rfl, trivial⟩ rfl ?_
 refine arr 5 [] rfl <| kcb [0] h rfl rfl rfl rfl (fun b ap z q => m_s_l1Below_ok N b (⟨p0.b, x1.2.i, x1.2.h⟩ : Tl1Cur) 3 (ph0_0.y z) h2 q) ?_
 rintro x2 h v3 Φ_3 F2 ⟨ap2, fr3, rfl, rfl, e2, h3⟩
 refine art 4 [] rfl <| wtS <| wt0 ?_
 have k1 := OSl.nil OTPat 35 3 Φ_3
 refine lin (σ := Hp × (List TPat) × Value × List Nat × Int × Int × Int) (fun s => [(0, pQ pb0), (4, pQ b_1), (5, pQ b_2), (6, iV s.2.2.2.2.1)]) (fun s => St w0 s.1 [(b_2, .cells #[.string p1, iV x1.1, s.2.2.1, .slice none 0 0, .slice none 0 0] 28 (0, 0)), (b_1, .cells #[.string (⟨#[]⟩ : ByteArray), iV 0, .slice none 0 0, .slice none 0 0, .slice none 0 0] 28 (0, 0))] [s.2.2.2.1, ob s.2.2.1, [pb0]]) (fun m s => m_s_l9Draw_l1 N p0 p1 x1 m s.2.1 s.2.2.2.2.1 s.2.2.2.2.2.1 s.2.2.2.2.2.2 = some r ∧ (OSl OTPat 35 3 s.1 s.2.2.2.1 s.2.2.1 s.2.1) ∧ (s.1 pb0 = some (.cells #[pv0_0, iV s.2.2.2.2.2.1, iV s.2.2.2.2.2.2] 107 (0, 0)))) (Φ_3, ([] : List TPat), (.slice none 0 0), [], wz (1 + x2.1), x2.2.i, x2.2.h) N ⟨h, k1, h3⟩ (sx [0, 0, 0] [0, 0]) (fun n1 ih1 s hm => ?_)
 obtain ⟨Φ_4, s1, u1, D2, s2, s3, s4⟩ := s
 obtain ⟨h, k2, k3⟩ := hm
 dsimp only at h k2 k3 ⊢
 unfold m_s_l9Draw_l1 at h
 refine att 6 [] rfl ?_
 refine ch h rfl ?_ ?_ <;> intro h
 ·refine att 3 [] rfl <| wm [0, 1] [7] rfl <| amm 3 [0, 2, 1, 0, 2] [0, 1] rfl rfl ?_
  obtain ⟨x3, hx3, h⟩ := bs h
  refine WM.one 3 (by kernel_rfl) (mc rfl (fun _ v Φx D w1 hq hw => Kn.of Kf.nil (ai2 0 1 rfl rfl) hw) (k_call (js := [2]) (R := [D2, ob u1]) Fun_138 rfl rfl (fun w1 hw ap hl => m_s_l6Draw_ok N (bx hw ap hl) (⟨p0.b, s3, s4⟩ : Tl1Cur) false (ph0_0.y (hw.uo ap)) k3  hx3)) rfl ?_)
  rintro v4 Φ_5 F3 ⟨ap3, fr4, v5, rfl, rfl, h4, e3, h5⟩
  replace k2 := k2.fr fr4 (ap3.q 1 rfl) (ap3.q 0 rfl)
  have rc2 : RC OTPat 3 Φ_5 ([(ob v5 ++ [])] : List (List Nat)) [.string x3.1.Kind, v5, .bool x3.1.Not] ([x3.1] : List TPat) := RC.cons (c := [.string x3.1.Kind, v5, .bool x3.1.Not]) (cells := []) ⟨v5, rfl, rfl, h4⟩ rfl (RC.nil _ _ _)
  refine WM.one 4 (by kernel_rfl) (me rfl (fun _ v Φx D w1 hq hw => Kn.of Kf.nil (ai2 0 1 rfl rfl) hw) (e_lit (vs := [(0, .agg [.string x3.1.Kind, v5, .bool x3.1.Not].toArray)]) (C := #[.string x3.1.Kind, v5, .bool x3.1.Not]) OTPat.lasts Sl_24 Zr_35 rfl rfl rfl rfl (fill_made MC_35_1 (fill_cons (C' := [.string x3.1.Kind, v5, .bool x3.1.Not]) rfl rfl rfl rfl rfl (fill_nil))) rfl rc2 rfl (RC.kn OTPat.knows rc2)) rfl ?_)
  rintro v6 Φ_6 D3 ⟨fr5, h6⟩
  replace h6 : OSl OTPat 35 3 Φ_6 ((ob v5 ++ [])) v6 ([x3.1] : List TPat) := by simpa [List.append_assoc] using h6
  replace k2 := k2.f0 fr5
  replace h5 := fr5 _ _ (by simp) h5
  refine WM.conv (S' := St w0 Φ_6 [(b_2, .cells #[.string p1, iV x1.1, u1, .slice none 0 0, .slice none 0 0] 28 (0, 0)), (b_1, .cells #[.string (⟨#[]⟩ : ByteArray), iV 0, .slice none 0 0, .slice none 0 0, .slice none 0 0] 28 (0, 0))] [((ob v5 ++ [])), ob v6, [pb0], D2, ob u1]) (fun w1 hw => hw.merge (js := [1]) rfl (SP.eq (by simp [List.append_assoc, ob_nil]))) ?_
  obtain ⟨x4, hx4, h⟩ := bs h
  refine WM.one 5 (by kernel_rfl) (me rfl (fun _ v Φx D w1 hq hw => Kn.of Kf.nil (ai2 0 1 rfl rfl) hw) (e_appO OTPat.lasts OTPat.one Sl_24 Ei_35 rfl rfl rfl rfl rfl (js := [4]) (Rr := [((ob v5 ++ [])), ob v6, [pb0], D2]) rfl k2 h6 (fun ap => ap.q 3 rfl) (fun ap => ap.q 0 rfl) hx4) rfl ?_)
  rintro v7 Φ_7 D4 ⟨⟨ap4, fr6⟩, h7⟩
  replace h5 := fr6 _ _ ((ap4.q 2 rfl) _ (by simp)) h5
  refine WM.conv (S' := St w0 Φ_7 [(b_2, .cells #[.string p1, iV x1.1, u1, .slice none 0 0, .slice none 0 0] 28 (0, 0)), (b_1, .cells #[.string (⟨#[]⟩ : ByteArray), iV 0, .slice none 0 0, .slice none 0 0, .slice none 0 0] 28 (0, 0))] [(D2 ++ ((ob v5 ++ []))), ob v7, ob v6, [pb0]]) (fun w1 hw => hw.merge (js := [4, 1]) rfl (SP.eq (by simp))) <| amm 1 [6, 2] [0, 1] rfl rfl ?_
  refine on1 7 (ms1 0 rfl nk Sz_24 rfl h7.one ?_)
  refine WM.nil (by kernel_rfl) <| att 6 [] rfl ?_
  exact lb [0, 0, 1] [0, 0] (ih1 (_, _, _, _, _, _, _) ⟨h, h7, h5⟩)
 refine atr 5 [] rfl <| kcb [2] h rfl rfl rfl rfl (fun b ap z q => m_s_l1Once_ok N b (⟨p0.b, s3, s4⟩ : Tl1Cur) 3 (ph0_0.y z) k3 q) ?_
 rintro x5 h v8 Φ_8 F4 ⟨ap5, fr7, rfl, rfl, e4, h8⟩
 replace k2 := k2.fr fr7 (ap5.q 1 rfl) (ap5.q 0 rfl)
 refine en ?_
 refine cut (σ := Hp × (List TPat) × Value × List Nat × Int × Int) (fun s => [(0, pQ pb0), (4, pQ b_1), (5, pQ b_2)]) (fun s => St w0 s.1 [(b_2, .cells #[.string p1, iV x1.1, s.2.2.1, .slice none 0 0, .slice none 0 0] 28 (0, 0)), (b_1, .cells #[.string (⟨#[]⟩ : ByteArray), iV 0, .slice none 0 0, .slice none 0 0, .slice none 0 0] 28 (0, 0))] [[pb0], s.2.2.2.1, ob s.2.2.1]) (fun s => m_s_l9Draw_j2 N p0 p1 x1 s.2.1 s.2.2.2.2.1 s.2.2.2.2.2 = some r ∧ (OSl OTPat 35 3 s.1 s.2.2.2.1 s.2.2.1 s.2.1) ∧ (s.1 pb0 = some (.cells #[pv0_0, iV s.2.2.2.2.1, iV s.2.2.2.2.2] 107 (0, 0)))) (fun s hm => ?_) (fun K => ?_)
 ·clear h
  obtain ⟨Φ_9, s5, u2, D5, s6, s7⟩ := s
  obtain ⟨h, k4, k5⟩ := hm
  dsimp only at h k4 k5 ⊢
  unfold m_s_l9Draw_j2 at h
  refine atr 3 [5] rfl <| kab h rfl rfl rfl (fun b z q => m_s_PosVars_ok N b (⟨p1, x1.1, s5, [], []⟩ : TRule) (k4.rslG OTPat.gives) (RSl.nil _ _ _) (RSl.nil _ _ _) q) ?_
  rintro x6 h v9 Φ_10 F5 ⟨ap6, fr8, v10, rfl, rfl, h9⟩
  replace k4 := k4.fr fr8 (ap6.q 2 rfl) (ap6.q 1 rfl)
  replace k5 := fr8 _ _ ((ap6.q 0 rfl) _ (by simp)) k5
  refine arr 6 [] rfl <| kcb [1] h rfl rfl rfl rfl (fun b ap z q => m_s_l1Once_ok N b (⟨p0.b, s6, s7⟩ : Tl1Cur) 3 (ph0_0.y z) k5 q) ?_
  rintro x7 h v11 Φ_11 F6 ⟨ap7, fr9, rfl, rfl, e5, h10⟩
  replace k4 := k4.fr fr9 (ap7.q 2 rfl) (ap7.q 1 rfl)
  replace h9 := h9.fr fr9 (ap7.q 0 rfl) dN
  refine en <| wtS ?_
  have k6 := OSl.nil RTCond 62 11 Φ_11
  refine cut (σ := Hp × (List TCond) × Value × Int × Int) (fun s => [(0, pQ pb0), (4, pQ b_1), (5, pQ b_2), (7, v9)]) (fun s => St w0 s.1 [(b_2, .cells #[.string p1, iV x1.1, u2, s.2.2.1, .slice none 0 0] 28 (0, 0)), (b_1, .cells #[.string (⟨#[]⟩ : ByteArray), iV 0, .slice none 0 0, .slice none 0 0, .slice none 0 0] 28 (0, 0))] [ob s.2.2.1, [pb0], ob v9, D5, ob u2]) (fun s => m_s_l9Draw_j3 N p0 p1 x1 s5 x6 s.2.1 s.2.2.2.1 s.2.2.2.2 = some r ∧ (OSl OTPat 35 3 s.1 D5 u2 s5) ∧ (OSl RS 9 1 s.1 [] v9 x6) ∧ (OSl RTCond 62 11 s.1 [] s.2.2.1 s.2.1) ∧ (s.1 pb0 = some (.cells #[pv0_0, iV s.2.2.2.1, iV s.2.2.2.2] 107 (0, 0)))) (fun s hm => ?_) (fun K => ?_)
  ·clear h
   obtain ⟨Φ_12, s8, u3, s9, s10⟩ := s
   obtain ⟨h, k4, h9, k7, k8⟩ := hm
   dsimp only at h k4 h9 k7 k8 ⊢
   unfold m_s_l9Draw_j3 at h
   refine atr 4 [] rfl <| kcb [1] h rfl rfl rfl rfl (fun b ap z q => m_s_l1Below_ok N b (⟨p0.b, s9, s10⟩ : Tl1Cur) 3 (ph0_0.y z) k8 q) ?_
   rintro x8 h v12 Φ_13 F7 ⟨ap8, fr10, rfl, rfl, e6, h11⟩
   replace k4 := k4.fr fr10 (ap8.q 3 rfl) (ap8.q 2 rfl)
   replace h9 := h9.fr fr10 (ap8.q 1 rfl) dN
   replace k7 := k7.fr fr10 (ap8.q 0 rfl) dN
   refine art 4 [] rfl <| wtS <| wt0 ?_
   have k9 := OSl.nil OTAct 66 5 Φ_13
   refine lin (σ := Hp × (List TAct) × Value × List Nat × Int × Int × Int) (fun s => [(0, pQ pb0), (4, pQ b_1), (5, pQ b_2), (7, v9), (9, iV s.2.2.2.2.1)]) (fun s => St w0 s.1 [(b_2, .cells #[.string p1, iV x1.1, u2, u3, s.2.2.1] 28 (0, 0)), (b_1, .cells #[.string (⟨#[]⟩ : ByteArray), iV 0, .slice none 0 0, .slice none 0 0, .slice none 0 0] 28 (0, 0))] [s.2.2.2.1, ob s.2.2.1, [pb0], ob u3, ob v9, D5, ob u2]) (fun m s => m_s_l9Draw_l4 N p0 p1 x1 s5 x6 s8 m s.2.1 s.2.2.2.2.1 s.2.2.2.2.2.1 s.2.2.2.2.2.2 = some r ∧ (OSl OTPat 35 3 s.1 D5 u2 s5) ∧ (OSl RS 9 1 s.1 [] v9 x6) ∧ (OSl RTCond 62 11 s.1 [] u3 s8) ∧ (OSl OTAct 66 5 s.1 s.2.2.2.1 s.2.2.1 s.2.1) ∧ (s.1 pb0 = some (.cells #[pv0_0, iV s.2.2.2.2.2.1, iV s.2.2.2.2.2.2] 107 (0, 0)))) (Φ_13, ([] : List TAct), (.slice none 0 0), [], wz (1 + x8.1), x8.2.i, x8.2.h) N ⟨h, k4, h9, k7, k9, h11⟩ (sx [0, 0, 0, 0, 0, 0, 0] [0, 0]) (fun n4 ih4 s hm => ?_)
   obtain ⟨Φ_14, s11, u4, D6, s12, s13, s14⟩ := s
   obtain ⟨h, k4, h9, k7, k10, k11⟩ := hm
   dsimp only at h k4 h9 k7 k10 k11 ⊢
   unfold m_s_l9Draw_l4 at h
   refine att 6 [] rfl ?_
   refine ch h rfl ?_ ?_ <;> intro h
   ·refine atr 7 [5] rfl <| qc h (m_s_PosCount_ok N · (⟨p1, x1.1, s5, s8, s11⟩ : TRule) (k4.rslG OTPat.gives) k7.rsl (k10.rslG OTAct.gives) ·) rfl rfl rfl fun x9 h => kcb [2] h rfl rfl rfl rfl (fun b ap z q => m_s_l8Draw_ok N b (⟨p0.b, s13, s14⟩ : Tl1Cur) x9 (ph0_0.y z) k11 q) ?_
    rintro x10 h v13 Φ_15 F8 ⟨ap9, fr11, v14, rfl, rfl, h12, e7, h13⟩
    replace k4 := k4.fr fr11 (ap9.q 5 rfl) (ap9.q 4 rfl)
    replace h9 := h9.fr fr11 (ap9.q 3 rfl) dN
    replace k7 := k7.fr fr11 (ap9.q 2 rfl) dN
    replace k10 := k10.fr fr11 (ap9.q 1 rfl) (ap9.q 0 rfl)
    refine lnz Zr_66 rfl fun b_3 => soN 0 Sz_66 rfl ⟨rfl, rfl, h12.one, rfl, rfl, trivial⟩ rfl ?_
    refine art 7 [] rfl ?_
    refine lin (σ := Hp × (List TExpr) × Int) (fun s => [(0, pQ pb0), (4, pQ b_1), (5, pQ b_2), (7, v9), (9, iV s12), (10, pQ b_3), (11, iV s.2.2)]) (fun s => St w0 s.1 [(b_3, .cells #[iV x10.1.Kind, .string x10.1.Name, v14, iV x10.1.N, .string x10.1.Undo] 66 (0, 0)), (b_2, .cells #[.string p1, iV x1.1, u2, u3, u4] 28 (0, 0)), (b_1, .cells #[.string (⟨#[]⟩ : ByteArray), iV 0, .slice none 0 0, .slice none 0 0, .slice none 0 0] 28 (0, 0))] [ob v14, [pb0], D6, ob u4, ob u3, ob v9, D5, ob u2]) (fun m s => m_s_l9Draw_l5 N x6 s11 s12 (m_s_l9Draw_l4 N p0 p1 x1 s5 x6 s8 n4) x10 m s.2.1 s.2.2 = some r ∧ (OSl OTPat 35 3 s.1 D5 u2 s5) ∧ (OSl RS 9 1 s.1 [] v9 x6) ∧ (OSl RTCond 62 11 s.1 [] u3 s8) ∧ (OSl OTAct 66 5 s.1 D6 u4 s11) ∧ (OSl RTExpr 116 11 s.1 [] v14 s.2.1) ∧ (s.1 pb0 = some (.cells #[pv0_0, iV x10.2.i, iV x10.2.h] 107 (0, 0)))) (Φ_15, x10.1.Args, 0) N ⟨h, k4, h9, k7, k10, h12, h13⟩ (sx [0, 0, 0, 0, 0, 0, 0, 0] [0, 0, 0]) (fun n5 ih5 s hm => ?_)
    obtain ⟨Φ_16, s15, s16⟩ := s
    obtain ⟨h, k4, h9, k7, k10, k12, k13⟩ := hm
    dsimp only at h k4 h9 k7 k10 k12 k13 ⊢
    unfold m_s_l9Draw_l5 at h
    refine atr 6 [2, 0] rfl <| lno k12 rfl <| la rfl <| en ?_
    refine ch h rfl ?_ ?_ <;> intro h
    ·refine att 4 [] rfl ?_
     obtain ⟨x11, hx11, h⟩ := bs h
     obtain ⟨cs1, F9, h14, r1⟩ := k12.focusF RTExpr.flat hx11
     obtain ⟨rfl, -⟩ := r1
     refine WT.mix (Kn w0 Φ_16 (ob u3 ++ (ob u4 ++ ob v14)) [(b_3, .cells #[iV x10.1.Kind, .string x10.1.Name, v14, iV x10.1.N, .string x10.1.Undo] 66 (0, 0)), (b_2, .cells #[.string p1, iV x1.1, u2, u3, u4] 28 (0, 0)), (b_1, .cells #[.string (⟨#[]⟩ : ByteArray), iV 0, .slice none 0 0, .slice none 0 0, .slice none 0 0] 28 (0, 0))]) (fun i => match i with | 13 => false | _ => true) mixed (fun _ h => h.drew) <| mq 0 rfl (by kernel_rfl) (kn Kf.id (ai3 0 1 2 rfl rfl rfl)) (q_fieldAddr Fld_66_2 rfl) rfl ?_
     refine mq 1 rfl (by kernel_rfl) (kn Kf.id (ai3 0 1 2 rfl rfl rfl)) (q_load1 T1_64 rfl (fun w1 hw => hw.rgO (i := 0) rfl 2 1 [v14] rfl)) rfl <| ma 2 rfl (by kernel_rfl) (kn Kf.id (ai3 0 1 2 rfl rfl rfl)) rfl <| mq 3 rfl (by kernel_rfl) (kn Kf.id (ai3 0 1 2 rfl rfl rfl)) (q_fieldAddr Fld_66_2 rfl) rfl <| mq 4 rfl (by kernel_rfl) (kn Kf.id (ai3 0 1 2 rfl rfl rfl)) (q_load1 T1_64 rfl (fun w1 hw => hw.rgO (i := 0) rfl 2 1 [v14] rfl)) rfl <| ma 5 rfl (by kernel_rfl) (kn Kf.id (ai3 0 1 2 rfl rfl rfl)) rfl ?_
     refine mq 6 rfl (by kernel_rfl) (kn Kf.id (ai3 0 1 2 rfl rfl rfl)) (q_indexAddrH Sl_64 rfl rfl h14 hx11) rfl <| mq 7 rfl (by kernel_rfl) (kn Kf.id (ai3 0 1 2 rfl rfl rfl)) (q_fieldAddr Fld_116_1 rfl) rfl <| mq 8 rfl (by kernel_rfl) (kn Kf.id (ai3 0 1 2 rfl rfl rfl)) (q_loadN Tn_60 rfl (fun w1 hw => hw.rg (List.mem_append.2 (.inr (List.mem_append.2 (.inr h14.hb)))) (h14.rg.of_eq 1 5 rfl rfl : rg _ _ _ [iV x11.L.K, .string x11.L.S, iV x11.L.V.K, iV x11.L.V.N, .string x11.L.V.S])) rfl) rfl <| ma 9 rfl (by kernel_rfl) (kn Kf.id (ai3 0 1 2 rfl rfl rfl)) rfl ?_
     obtain ⟨x12, hx12, h⟩ := bs h
     refine on1 10 (mp rfl (fun _ w1 hw => Kn.of Kf.id (ai3 0 1 2 rfl rfl rfl) hw) (pcP rfl (m_s_l9Fit_ok N · x11.L x6 h9.rsl hx12)) rfl ?_)
     refine mqT 11 [12, 13] rfl (by kernel_rfl) (kn Kf.id (ai3 0 1 2 rfl rfl rfl)) (q_indexAddrH Sl_64 rfl rfl h14 hx11) rfl <| mq 12 rfl (by kernel_rfl) (kn Kf.id (ai3 0 1 2 rfl rfl rfl)) (q_fieldAddr Fld_116_1 rfl) rfl ?_
     refine WM.one 13 (by kernel_rfl) (mu rfl (fun hc => by cases hc) (u_setH (js := [0]) (Rr := [[pb0], D6, ob u4, ob u3, ob v9, D5, ob u2]) (o := 1) (vs := [iV x12.K, .string x12.S, iV x12.V.K, iV x12.V.N, .string x12.V.S]) (cs' := [.string x11.Op, iV x12.K, .string x12.S, iV x12.V.K, iV x12.V.N, .string x12.V.S, iV x11.R.K, .string x11.R.S, iV x11.R.V.K, iV x11.R.V.N, .string x11.R.V.S]) RTExpr.lasts Sz_60 rfl rfl rfl rfl ⟨rfl, rfl, rfl, rfl, rfl, trivial⟩ rfl h14 rfl rfl (fun ap => dN)) rfl ?_)
     rintro Φ_17 D8 ⟨⟨ap10, fr12⟩, h15⟩
     replace k4 := k4.fr fr12 (ap10.q 6 rfl) (ap10.q 5 rfl)
     replace h9 := h9.fr fr12 (ap10.q 4 rfl) dN
     replace k7 := k7.fr fr12 (ap10.q 3 rfl) dN
     replace k10 := k10.fr fr12 (ap10.q 2 rfl) (ap10.q 1 rfl)
     replace k13 := fr12 _ _ ((ap10.q 0 rfl) _ (by simp)) k13
     refine WM.nil (by kernel_rfl) <| atr 5 [2, 0] rfl <| lih h15 hx11 rfl <| lf Fld_116_0 rfl rfl rfl <| lgx 0 0 h15.rg rfl <| la rfl <| en ?_
     refine ch h rfl ?_ ?_ <;> intro h
     ·refine WT.mix (Kn w0 Φ_17 (ob u3 ++ (ob u4 ++ ob v14)) [(b_3, .cells #[iV x10.1.Kind, .string x10.1.Name, v14, iV x10.1.N, .string x10.1.Undo] 66 (0, 0)), (b_2, .cells #[.string p1, iV x1.1, u2, u3, u4] 28 (0, 0)), (b_1, .cells #[.string (⟨#[]⟩ : ByteArray), iV 0, .slice none 0 0, .slice none 0 0, .slice none 0 0] 28 (0, 0))]) (fun i => match i with | 13 => false | _ => true) mixed (fun _ h => h.drew) <| mq 0 rfl (by kernel_rfl) (kn Kf.id (ai3 0 1 2 rfl rfl rfl)) (q_fieldAddr Fld_66_2 rfl) rfl ?_
      refine mq 1 rfl (by kernel_rfl) (kn Kf.id (ai3 0 1 2 rfl rfl rfl)) (q_load1 T1_64 rfl (fun w1 hw => hw.rgO (i := 0) rfl 2 1 [v14] rfl)) rfl <| ma 2 rfl (by kernel_rfl) (kn Kf.id (ai3 0 1 2 rfl rfl rfl)) rfl <| mq 3 rfl (by kernel_rfl) (kn Kf.id (ai3 0 1 2 rfl rfl rfl)) (q_fieldAddr Fld_66_2 rfl) rfl <| mq 4 rfl (by kernel_rfl) (kn Kf.id (ai3 0 1 2 rfl rfl rfl)) (q_load1 T1_64 rfl (fun w1 hw => hw.rgO (i := 0) rfl 2 1 [v14] rfl)) rfl <| ma 5 rfl (by kernel_rfl) (kn Kf.id (ai3 0 1 2 rfl rfl rfl)) rfl ?_
      refine mq 6 rfl (by kernel_rfl) (kn Kf.id (ai3 0 1 2 rfl rfl rfl)) (q_indexAddrH Sl_64 rfl rfl h15 hx11) rfl <| mq 7 rfl (by kernel_rfl) (kn Kf.id (ai3 0 1 2 rfl rfl rfl)) (q_fieldAddr Fld_116_2 rfl) rfl <| mq 8 rfl (by kernel_rfl) (kn Kf.id (ai3 0 1 2 rfl rfl rfl)) (q_loadN Tn_60 rfl (fun w1 hw => hw.rg (List.mem_append.2 (.inr (List.mem_append.2 (.inr h15.hb)))) (h15.rg.of_eq 6 5 rfl rfl : rg _ _ _ [iV x11.R.K, .string x11.R.S, iV x11.R.V.K, iV x11.R.V.N, .string x11.R.V.S])) rfl) rfl <| ma 9 rfl (by kernel_rfl) (kn Kf.id (ai3 0 1 2 rfl rfl rfl)) rfl ?_
      obtain ⟨x13, hx13, h⟩ := bs h
      refine on1 10 (mp rfl (fun _ w1 hw => Kn.of Kf.id (ai3 0 1 2 rfl rfl rfl) hw) (pcP rfl (m_s_l9Fit_ok N · x11.R x6 h9.rsl hx13)) rfl ?_)
      refine mqT 11 [12, 13] rfl (by kernel_rfl) (kn Kf.id (ai3 0 1 2 rfl rfl rfl)) (q_indexAddrH Sl_64 rfl rfl h15 hx11) rfl <| mq 12 rfl (by kernel_rfl) (kn Kf.id (ai3 0 1 2 rfl rfl rfl)) (q_fieldAddr Fld_116_2 rfl) rfl ?_
      refine WM.one 13 (by kernel_rfl) (mu rfl (fun hc => by cases hc) (u_setH (js := [0]) (Rr := [[pb0], D6, ob u4, ob u3, ob v9, D5, ob u2]) (o := 6) (vs := [iV x13.K, .string x13.S, iV x13.V.K, iV x13.V.N, .string x13.V.S]) (cs' := [.string x11.Op, iV x12.K, .string x12.S, iV x12.V.K, iV x12.V.N, .string x12.V.S, iV x13.K, .string x13.S, iV x13.V.K, iV x13.V.N, .string x13.V.S]) RTExpr.lasts Sz_60 rfl rfl rfl rfl ⟨rfl, rfl, rfl, rfl, rfl, trivial⟩ rfl h15 rfl rfl (fun ap => dN)) rfl ?_)
      rintro Φ_18 D9 ⟨⟨ap11, fr13⟩, h16⟩
      replace k4 := k4.fr fr13 (ap11.q 6 rfl) (ap11.q 5 rfl)
      replace h9 := h9.fr fr13 (ap11.q 4 rfl) dN
      replace k7 := k7.fr fr13 (ap11.q 3 rfl) dN
      replace k10 := k10.fr fr13 (ap11.q 2 rfl) (ap11.q 1 rfl)
      replace k13 := fr13 _ _ ((ap11.q 0 rfl) _ (by simp)) k13
      refine WM.nil (by kernel_rfl) <| att 6 [] rfl ?_
      have h17 := h16.unfocusF RTExpr.flat (x' := (⟨x11.Op, x12, x13⟩ : TExpr)) ⟨rfl, rfl⟩
      exact lb [0, 0, 0, 0, 0, 0, 0, 0] [0, 0, 0] (ih5 (_, _, _) ⟨h, k4, h9, k7, k10, h17, k13⟩)
     refine att 7 [] rfl ?_
     have h18 := h15.unfocusF RTExpr.flat (x' := (⟨x11.Op, x12, x11.R⟩ : TExpr)) ⟨rfl, rfl⟩
     exact lb [0, 0, 0, 0, 0, 0, 0, 0] [0, 0, 0] (ih5 (_, _, _) ⟨h, k4, h9, k7, k10, h18, k13⟩)
    refine atr 5 [4, 32, 5] rfl ?_
    have rc3 : RC OTAct 5 Φ_16 ([(ob v14 ++ [])] : List (List Nat)) [iV x10.1.Kind, .string x10.1.Name, v14, iV x10.1.N, .string x10.1.Undo] ([(⟨x10.1.Kind, x10.1.Name, s15, x10.1.N, x10.1.Undo⟩ : TAct)] : List TAct) := RC.cons (c := [iV x10.1.Kind, .string x10.1.Name, v14, iV x10.1.N, .string x10.1.Undo]) (cells := []) ⟨v14, rfl, rfl, k12⟩ rfl (RC.nil _ _ _)
    refine le' (e_lit (vs := [(0, .agg [iV x10.1.Kind, .string x10.1.Name, v14, iV x10.1.N, .string x10.1.Undo].toArray)]) (C := #[iV x10.1.Kind, .string x10.1.Name, v14, iV x10.1.N, .string x10.1.Undo]) OTAct.lasts Sl_26 Zr_66 rfl rfl rfl rfl (fill_made MC_66_1 (fill_cons (C' := [iV x10.1.Kind, .string x10.1.Name, v14, iV x10.1.N, .string x10.1.Undo]) rfl rfl rfl rfl rfl (fill_nil))) rfl rc3 rfl (RC.kn OTAct.knows rc3)) rfl ?_
    rintro v15 Φ_19 D10 ⟨fr14, h19⟩
    replace h19 : OSl OTAct 66 5 Φ_19 ((ob v14 ++ [])) v15 ([(⟨x10.1.Kind, x10.1.Name, s15, x10.1.N, x10.1.Undo⟩ : TAct)] : List TAct) := by simpa [List.append_assoc] using h19
    replace k4 := k4.f0 fr14
    replace h9 := h9.f0 fr14
    replace k7 := k7.f0 fr14
    replace k10 := k10.f0 fr14
    replace k13 := fr14 _ _ (by simp) k13
    refine wlL [((ob v14 ++ [])), ob v15, [pb0], D6, ob u4, ob u3, ob v9, D5, ob u2] (smg [1] rfl (SP.eq (by simp [List.append_assoc, ob_nil]))) ?_
    obtain ⟨x14, hx14, h⟩ := bs h
    refine le' (e_appO OTAct.lasts OTAct.one Sl_26 Ei_66 rfl rfl rfl rfl rfl (js := [4]) (Rr := [((ob v14 ++ [])), ob v15, [pb0], D6, ob u3, ob v9, D5, ob u2]) rfl k10 h19 (fun ap => ap.q 3 rfl) (fun ap => ap.q 0 rfl) hx14) rfl ?_
    rintro v16 Φ_20 D11 ⟨⟨ap12, fr15⟩, h20⟩
    replace k4 := k4.fr fr15 (ap12.q 7 rfl) (ap12.q 6 rfl)
    replace h9 := h9.fr fr15 (ap12.q 5 rfl) dN
    replace k7 := k7.fr fr15 (ap12.q 4 rfl) dN
    replace k13 := fr15 _ _ ((ap12.q 2 rfl) _ (by simp)) k13
    refine wlL [(D6 ++ ((ob v14 ++ []))), ob v16, ob v15, [pb0], ob u3, ob v9, D5, ob u2] (smg [4, 1] rfl (SP.eq (by simp))) <| lf Fld_28_4 rfl rfl rfl <| so1 1 Sz_26 rfl h20.one ?_
    refine art 7 [] rfl ?_
    exact lb [0, 0, 1, 1, 1, 1, 1] [1, 1] (ih4 (_, _, _, _, _, _, _) ⟨h, k4, h9, k7, h20, k13⟩)
   refine atr 4 [5] rfl <| soN 1 Sz_28 rfl ⟨rfl, rfl, k4.one, k7.one, k10.one, trivial⟩ rfl ?_
   refine en ?_
   exact rtg [6, 5, 3, 1, 0, 0] hF (resOk.one (rv_cell Tn_28 rfl (fun w1 hw => hw.rgO (i := 1) rfl 0 5 [.string p1, iV x1.1, u2, u3, u4] rfl) rfl)) rfl (by cases h; exact fun w1 hw => ⟨u2, D5, u3, u4, D6, rfl, rfl, k4, k7, k10, rfl, k11⟩)
  refine ch h rfl ?_ ?_ <;> intro h
  ·refine sr <| la rfl <| kcb [1] h rfl rfl rfl rfl (fun b ap z q => m_s_l7Draw_ok N b (⟨p0.b, x7.2.i, x7.2.h⟩ : Tl1Cur) (ph0_0.y z) h10 q) ?_
   rintro x15 h v17 Φ_21 F10 ⟨ap13, fr16, rfl, rfl, e8, h21⟩
   replace k4 := k4.fr fr16 (ap13.q 3 rfl) (ap13.q 2 rfl)
   replace h9 := h9.fr fr16 (ap13.q 1 rfl) dN
   replace k6 := k6.fr fr16 (ap13.q 0 rfl) dN
   refine lnz Zr_62 rfl fun b_4 => soN 0 Sz_62 rfl ⟨rfl, rfl, rfl, rfl, rfl, rfl, rfl, rfl, rfl, rfl, rfl, trivial⟩ rfl ?_
   refine arr 6 [1, 5] rfl <| qc h (m_s_l9Fit_ok N · x15.1.L x6 h9.rsl ·) rfl rfl rfl fun x16 h => lf Fld_62_1 rfl rfl rfl <| soN 0 Sz_60 rfl ⟨rfl, rfl, rfl, rfl, rfl, trivial⟩ rfl ?_
   refine arr 6 [6, 5] rfl <| qc h (m_s_l9Fit_ok N · x15.1.R x6 h9.rsl ·) rfl rfl rfl fun x17 h => lf Fld_62_2 rfl rfl rfl <| soN 0 Sz_60 rfl ⟨rfl, rfl, rfl, rfl, rfl, trivial⟩ rfl ?_
   refine arr 5 [3, 32, 11] rfl ?_
   have rc4 : RC RTCond 11 Φ_21 ([[]] : List (List Nat)) [iV x15.1.Op, iV x16.K, .string x16.S, iV x16.V.K, iV x16.V.N, .string x16.V.S, iV x17.K, .string x17.S, iV x17.V.K, iV x17.V.N, .string x17.V.S] ([(⟨x15.1.Op, x16, x17⟩ : TCond)] : List TCond) := RC.cons (c := [iV x15.1.Op, iV x16.K, .string x16.S, iV x16.V.K, iV x16.V.N, .string x16.V.S, iV x17.K, .string x17.S, iV x17.V.K, iV x17.V.N, .string x17.V.S]) (cells := []) ⟨rfl, rfl⟩ rfl (RC.nil _ _ _)
   refine le' (e_lit (vs := [(0, .agg [iV x15.1.Op, iV x16.K, .string x16.S, iV x16.V.K, iV x16.V.N, .string x16.V.S, iV x17.K, .string x17.S, iV x17.V.K, iV x17.V.N, .string x17.V.S].toArray)]) (C := #[iV x15.1.Op, iV x16.K, .string x16.S, iV x16.V.K, iV x16.V.N, .string x16.V.S, iV x17.K, .string x17.S, iV x17.V.K, iV x17.V.N, .string x17.V.S]) RTCond.lasts Sl_25 Zr_62 rfl rfl rfl rfl (fill_made MC_62_1 (fill_cons (C' := [iV x15.1.Op, iV x16.K, .string x16.S, iV x16.V.K, iV x16.V.N, .string x16.V.S, iV x17.K, .string x17.S, iV x17.V.K, iV x17.V.N, .string x17.V.S]) rfl rfl rfl rfl rfl (fill_nil))) rfl rc4 rfl (by simpa using Kw.nil)) rfl ?_
   rintro v18 Φ_22 D12 ⟨fr17, h22⟩
   replace h22 : OSl RTCond 62 11 Φ_22 [] v18 ([(⟨x15.1.Op, x16, x17⟩ : TCond)] : List TCond) := by simpa using h22
   replace k4 := k4.f0 fr17
   replace h9 := h9.f0 fr17
   replace k6 := k6.f0 fr17
   replace h21 := fr17 _ _ (by simp) h21
   obtain ⟨x18, hx18, h⟩ := bs h
   refine le' (e_appF RTCond.lasts RTCond.one RTCond.flat Sl_25 Ei_62 rfl rfl rfl rfl rfl (js := [2]) (Rr := [ob v18, [pb0], ob v9, D5, ob u2]) rfl k6 h22.rsl hx18) rfl ?_
   rintro v19 Φ_23 D13 ⟨⟨ap14, fr18⟩, h23⟩
   replace k4 := k4.fr fr18 (ap14.q 4 rfl) (ap14.q 3 rfl)
   replace h9 := h9.fr fr18 (ap14.q 2 rfl) dN
   replace h21 := fr18 _ _ ((ap14.q 1 rfl) _ (by simp)) h21
   refine lf Fld_28_3 rfl rfl rfl <| so1 1 Sz_25 rfl h23.one ?_
   refine en ?_
   exact wo [0, 1, 1, 1, 1] [1, 1] (K (_, _, _, _, _) ⟨h, k4, h9, h23, h21⟩)
  refine WT.skip ?_
  exact wo [0, 0, 0, 0, 0] [0, 0] (K (_, _, _, _, _) ⟨h, k4, h9, k6, h10⟩)
 refine ch h rfl ?_ ?_ <;> intro h
 ·refine wm [0, 1] [7] rfl <| amm 3 [0, 2, 1, 0, 2] [0, 1] rfl rfl ?_
  obtain ⟨x19, hx19, h⟩ := bs h
  refine WM.one 3 (by kernel_rfl) (mc rfl (fun _ v Φx D w1 hq hw => Kn.of Kf.nil (ai2 0 1 rfl rfl) hw) (k_call (js := [0]) (R := [D2, ob u1]) Fun_138 rfl rfl (fun w1 hw ap hl => m_s_l6Draw_ok N (bx hw ap hl) (⟨p0.b, x5.2.i, x5.2.h⟩ : Tl1Cur) true (ph0_0.y (hw.uo ap)) h8  hx19)) rfl ?_)
  rintro v20 Φ_24 F11 ⟨ap15, fr19, v21, rfl, rfl, h24, e9, h25⟩
  replace k2 := k2.fr fr19 (ap15.q 1 rfl) (ap15.q 0 rfl)
  have rc5 : RC OTPat 3 Φ_24 ([(ob v21 ++ [])] : List (List Nat)) [.string x19.1.Kind, v21, .bool x19.1.Not] ([x19.1] : List TPat) := RC.cons (c := [.string x19.1.Kind, v21, .bool x19.1.Not]) (cells := []) ⟨v21, rfl, rfl, h24⟩ rfl (RC.nil _ _ _)
  refine WM.one 4 (by kernel_rfl) (me rfl (fun _ v Φx D w1 hq hw => Kn.of Kf.nil (ai2 0 1 rfl rfl) hw) (e_lit (vs := [(0, .agg [.string x19.1.Kind, v21, .bool x19.1.Not].toArray)]) (C := #[.string x19.1.Kind, v21, .bool x19.1.Not]) OTPat.lasts Sl_24 Zr_35 rfl rfl rfl rfl (fill_made MC_35_1 (fill_cons (C' := [.string x19.1.Kind, v21, .bool x19.1.Not]) rfl rfl rfl rfl rfl (fill_nil))) rfl rc5 rfl (RC.kn OTPat.knows rc5)) rfl ?_)
  rintro v22 Φ_25 D14 ⟨fr20, h26⟩
  replace h26 : OSl OTPat 35 3 Φ_25 ((ob v21 ++ [])) v22 ([x19.1] : List TPat) := by simpa [List.append_assoc] using h26
  replace k2 := k2.f0 fr20
  replace h25 := fr20 _ _ (by simp) h25
  refine WM.conv (S' := St w0 Φ_25 [(b_2, .cells #[.string p1, iV x1.1, u1, .slice none 0 0, .slice none 0 0] 28 (0, 0)), (b_1, .cells #[.string (⟨#[]⟩ : ByteArray), iV 0, .slice none 0 0, .slice none 0 0, .slice none 0 0] 28 (0, 0))] [((ob v21 ++ [])), ob v22, [pb0], D2, ob u1]) (fun w1 hw => hw.merge (js := [1]) rfl (SP.eq (by simp [List.append_assoc, ob_nil]))) ?_
  obtain ⟨x20, hx20, h⟩ := bs h
  refine WM.one 5 (by kernel_rfl) (me rfl (fun _ v Φx D w1 hq hw => Kn.of Kf.nil (ai2 0 1 rfl rfl) hw) (e_appO OTPat.lasts OTPat.one Sl_24 Ei_35 rfl rfl rfl rfl rfl (js := [4]) (Rr := [((ob v21 ++ [])), ob v22, [pb0], D2]) rfl k2 h26 (fun ap => ap.q 3 rfl) (fun ap => ap.q 0 rfl) hx20) rfl ?_)
  rintro v23 Φ_26 D15 ⟨⟨ap16, fr21⟩, h27⟩
  replace h25 := fr21 _ _ ((ap16.q 2 rfl) _ (by simp)) h25
  refine WM.conv (S' := St w0 Φ_26 [(b_2, .cells #[.string p1, iV x1.1, u1, .slice none 0 0, .slice none 0 0] 28 (0, 0)), (b_1, .cells #[.string (⟨#[]⟩ : ByteArray), iV 0, .slice none 0 0, .slice none 0 0, .slice none 0 0] 28 (0, 0))] [(D2 ++ ((ob v21 ++ []))), ob v23, ob v22, [pb0]]) (fun w1 hw => hw.merge (js := [4, 1]) rfl (SP.eq (by simp))) <| amm 1 [6, 2] [0, 1] rfl rfl ?_
  refine on1 7 (ms1 0 rfl nk Sz_24 rfl h27.one ?_)
  refine WM.nil (by kernel_rfl) ?_
  exact wo [3, 0, 0] [0, 0] (K (_, _, _, _, _, _) ⟨h, h27, h25⟩)
 refine WT.skip ?_
 exact wo [0, 0, 0] [0, 0] (K (_, _, _, _, _, _) ⟨h, k2, h8⟩)
theorem m_s_l6Any_ok (w0 : Base Ψ Φ [[pb0]].flatten) (p0 : Tl1Cur) (ph0_0 : RSl (RI .u8) 1 Ψ pG0_0 pv0_0 p0.b) (pp0 : Φ pb0 = some (.cells #[pv0_0, iV p0.i, iV p0.h] 107 (0, 0))) {r : TPat × Tl1Cur} (h : m_s_l6Any N p0 = some r) :
  Calls prog 142 [pQ pb0].toArray w0.w (PostG Φ w0.w [[pb0]].flatten (fun Φ' Fs v => ∃ (sr_0_0 : Value), v = .agg [.string r.1.Kind, sr_0_0, .bool r.1.Not].toArray ∧ Fs = [ob sr_0_0, [pb0]] ∧ OSl RTArg 60 5 Φ' [] sr_0_0 r.1.Args ∧ r.2.b = p0.b ∧ Φ' pb0 = some (.cells #[pv0_0, iV r.2.i, iV r.2.h] 107 (0, 0)))) := by
 refine eL func142 rfl ntmps142 rfl (L := [[pb0]]) w0 (fun hF => ?_)
 unfold m_s_l6Any at h
 refine sr <| lnz Zr_35 rfl fun b_1 => arr 5 [] rfl <| kcb [0] h rfl rfl rfl rfl (fun b ap z q => m_s_l1Once_ok N b p0 3 (ph0_0.y z) pp0 q) ?_
 rintro x1 h v1 Φ_1 F1 ⟨ap1, fr1, rfl, rfl, e1, h1⟩
 refine kcb [0] h rfl rfl rfl rfl (fun b ap z q => m_s_l6Draw_ok N b (⟨p0.b, x1.2.i, x1.2.h⟩ : Tl1Cur) x1.1 (ph0_0.y z) h1 q) ?_
 rintro x2 h v2 Φ_2 F2 ⟨ap2, fr2, v3, rfl, rfl, h2, e2, h3⟩
 refine lnz Zr_35 rfl fun b_2 => soN 0 Sz_35 rfl ⟨rfl, h2.one, rfl, trivial⟩ rfl ?_
 refine arr 5 [] rfl <| kcb [1] h rfl rfl rfl rfl (fun b ap z q => m_s_l1Below_ok N b (⟨p0.b, x2.2.i, x2.2.h⟩ : Tl1Cur) 10 (ph0_0.y z) h3 q) ?_
 rintro x3 h v4 Φ_3 F3 ⟨ap3, fr3, rfl, rfl, e3, h4⟩
 replace h2 := h2.fr fr3 (ap3.q 0 rfl) dN
 refine art 7 [] rfl ?_
 refine cut (σ := Hp × (List TArg) × Value × Int × Int × ByteArray) (fun s => [(2, pQ b_1), (3, pQ b_2)]) (fun s => St w0 s.1 [(b_2, .cells #[.string s.2.2.2.2.2, s.2.2.1, .bool x2.1.Not] 35 (0, 0)), (b_1, .cells #[.string (⟨#[]⟩ : ByteArray), .slice none 0 0, .bool false] 35 (0, 0))] [[pb0], ob s.2.2.1]) (fun s => m_s_l6Any_j1 N p0 x2 s.2.1 s.2.2.2.1 s.2.2.2.2.1 s.2.2.2.2.2 = some r ∧ (OSl RTArg 60 5 s.1 [] s.2.2.1 s.2.1) ∧ (s.1 pb0 = some (.cells #[pv0_0, iV s.2.2.2.1, iV s.2.2.2.2.1] 107 (0, 0)))) (fun s hm => ?_) (fun K => ?_)
 ·clear h
  obtain ⟨Φ_4, s1, u1, s2, s3, s4⟩ := s
  obtain ⟨h, k1, k2⟩ := hm
  dsimp only at h k1 k2 ⊢
  unfold m_s_l6Any_j1 at h
  refine atr 4 [3] rfl <| soN 1 Sz_35 rfl ⟨rfl, k1.one, rfl, trivial⟩ rfl ?_
  refine en ?_
  exact rtg [1, 0] hF (resOk.one (rv_cell Tn_35 rfl (fun w1 hw => hw.rgO (i := 1) rfl 0 3 [.string s4, u1, .bool x2.1.Not] rfl) rfl)) rfl (by cases h; exact fun w1 hw => ⟨u1, rfl, rfl, k1, rfl, k2⟩)
 refine ch h rfl ?_ ?_ <;> intro h
 ·refine atr 2 [] rfl ?_
  have rc1 : RC RS 1 Φ_3 ([[], [], []] : List (List Nat)) [.string (⟨#[]⟩ : ByteArray), .string (⟨#[65]⟩ : ByteArray), .string (⟨#[120]⟩ : ByteArray)] ([(⟨#[]⟩ : ByteArray), (⟨#[65]⟩ : ByteArray), (⟨#[120]⟩ : ByteArray)] : List ByteArray) := RC.cons (c := [.string (⟨#[]⟩ : ByteArray)]) (cells := [.string (⟨#[65]⟩ : ByteArray), .string (⟨#[120]⟩ : ByteArray)]) ⟨rfl, rfl⟩ rfl (RC.cons (c := [.string (⟨#[65]⟩ : ByteArray)]) (cells := [.string (⟨#[120]⟩ : ByteArray)]) ⟨rfl, rfl⟩ rfl (RC.cons (c := [.string (⟨#[120]⟩ : ByteArray)]) (cells := []) ⟨rfl, rfl⟩ rfl (RC.nil _ _ _)))
  refine le' (e_lit (vs := [(0, .string (⟨#[]⟩ : ByteArray)), (1, .string (⟨#[65]⟩ : ByteArray)), (2, .string (⟨#[120]⟩ : ByteArray))]) (C := #[.string (⟨#[]⟩ : ByteArray), .string (⟨#[65]⟩ : ByteArray), .string (⟨#[120]⟩ : ByteArray)]) RS.lasts Sl_68 Zr_9 rfl rfl rfl rfl (fill_made MC_9_3 (fill_cons (C' := [.string (⟨#[]⟩ : ByteArray), .string ⟨#[]⟩, .string ⟨#[]⟩]) rfl rfl rfl rfl rfl (fill_cons (C' := [.string (⟨#[]⟩ : ByteArray), .string (⟨#[65]⟩ : ByteArray), .string ⟨#[]⟩]) rfl rfl rfl rfl rfl (fill_cons (C' := [.string (⟨#[]⟩ : ByteArray), .string (⟨#[65]⟩ : ByteArray), .string (⟨#[120]⟩ : ByteArray)]) rfl rfl rfl rfl rfl (fill_nil))))) rfl rc1 rfl (by simpa using Kw.nil)) rfl ?_
  rintro v5 Φ_5 D1 ⟨fr4, h5⟩
  replace h5 : OSl RS 9 1 Φ_5 [] v5 ([(⟨#[]⟩ : ByteArray), (⟨#[65]⟩ : ByteArray), (⟨#[120]⟩ : ByteArray)] : List ByteArray) := by simpa using h5
  replace h2 := h2.f0 fr4
  replace h4 := fr4 _ _ (by simp) h4
  refine kcb [1] h rfl rfl rfl rfl (fun b ap z q => m_s_l1Str_ok N b (⟨p0.b, x3.2.i, x3.2.h⟩ : Tl1Cur) ([(⟨#[]⟩ : ByteArray), (⟨#[65]⟩ : ByteArray), (⟨#[120]⟩ : ByteArray)] : List ByteArray) (ph0_0.y z) h4 (h5.rsl.x (Dj.app (ap.q 0 rfl) dN)) q) ?_
  rintro x4 h v6 Φ_6 F4 ⟨ap4, fr5, rfl, rfl, e4, h6⟩
  replace h2 := h2.fr fr5 (ap4.q 1 rfl) dN
  refine lf Fld_35_0 rfl rfl rfl <| so1 0 Sz_9 rfl rfl ?_
  refine en ?_
  exact wo [0, 1] [0, 0] (K (_, _, _, _, _, _) ⟨h, h2, h6⟩)
 refine att 5 [] rfl ?_
 refine ch h rfl ?_ ?_ <;> intro h
 ·refine cut (σ := Hp × (List TArg) × Value × Int × Int) (fun s => [(2, pQ b_1), (3, pQ b_2)]) (fun s => St w0 s.1 [(b_2, .cells #[.string x2.1.Kind, s.2.2.1, .bool x2.1.Not] 35 (0, 0)), (b_1, .cells #[.string (⟨#[]⟩ : ByteArray), .slice none 0 0, .bool false] 35 (0, 0))] [ob s.2.2.1, [pb0]]) (fun s => m_s_l6Any_j2 N p0 x2 s.2.1 s.2.2.2.1 s.2.2.2.2 = some r ∧ (OSl RTArg 60 5 s.1 [] s.2.2.1 s.2.1) ∧ (s.1 pb0 = some (.cells #[pv0_0, iV s.2.2.2.1, iV s.2.2.2.2] 107 (0, 0)))) (fun s hm => ?_) (fun K => ?_)
  ·clear h
   obtain ⟨Φ_12, s5, u2, s6, s7⟩ := s
   obtain ⟨h, k3, k4⟩ := hm
   dsimp only at h k3 k4 ⊢
   unfold m_s_l6Any_j2 at h
   exact wo [1, 0] [0, 0] (K (_, _, _, _, _, _) ⟨h, k3, k4⟩)
  refine wm [0, 1] [11] rfl <| amm 4 [0, 1, 1, 0, 2, 4] [0, 1] rfl rfl ?_
  refine WM.two 3 5 (by kernel_rfl) ?_ ?_
  ·obtain ⟨x8, hx8, h⟩ := bs h
   refine mc rfl (fun _ v Φx D w1 hq hw => Kn.of Kf.nil (ai2 0 1 rfl rfl) hw) (k_call (js := [0]) (R := [ob v3]) Fun_63 rfl rfl (fun w1 hw ap hl => m_s_l1Below_ok N (bx hw ap hl) (⟨p0.b, x3.2.i, x3.2.h⟩ : Tl1Cur) 5 (ph0_0.y (hw.uo ap)) h4  hx8)) rfl ?_
   rintro v12 Φ_13 F7 ⟨ap8, fr11, rfl, rfl, e7, h12⟩
   replace h2 := h2.fr fr11 (ap8.q 0 rfl) dN
   have rc4 : RC RS 1 Φ_13 ([[], [], []] : List (List Nat)) [.string (⟨#[]⟩ : ByteArray), .string (⟨#[120]⟩ : ByteArray), .string (⟨#[88]⟩ : ByteArray)] ([(⟨#[]⟩ : ByteArray), (⟨#[120]⟩ : ByteArray), (⟨#[88]⟩ : ByteArray)] : List ByteArray) := RC.cons (c := [.string (⟨#[]⟩ : ByteArray)]) (cells := [.string (⟨#[120]⟩ : ByteArray), .string (⟨#[88]⟩ : ByteArray)]) ⟨rfl, rfl⟩ rfl (RC.cons (c := [.string (⟨#[120]⟩ : ByteArray)]) (cells := [.string (⟨#[88]⟩ : ByteArray)]) ⟨rfl, rfl⟩ rfl (RC.cons (c := [.string (⟨#[88]⟩ : ByteArray)]) (cells := []) ⟨rfl, rfl⟩ rfl (RC.nil _ _ _)))
   refine WM.one 5 (by kernel_rfl) (me rfl (fun _ v Φx D w1 hq hw => Kn.of Kf.nil (ai2 0 1 rfl rfl) hw) (e_lit (vs := [(0, .string (⟨#[]⟩ : ByteArray)), (1, .string (⟨#[120]⟩ : ByteArray)), (2, .string (⟨#[88]⟩ : ByteArray))]) (C := #[.string (⟨#[]⟩ : ByteArray), .string (⟨#[120]⟩ : ByteArray), .string (⟨#[88]⟩ : ByteArray)]) RS.lasts Sl_68 Zr_9 rfl rfl rfl rfl (fill_made MC_9_3 (fill_cons (C' := [.string (⟨#[]⟩ : ByteArray), .string ⟨#[]⟩, .string ⟨#[]⟩]) rfl rfl rfl rfl rfl (fill_cons (C' := [.string (⟨#[]⟩ : ByteArray), .string (⟨#[120]⟩ : ByteArray), .string ⟨#[]⟩]) rfl rfl rfl rfl rfl (fill_cons (C' := [.string (⟨#[]⟩ : ByteArray), .string (⟨#[120]⟩ : ByteArray), .string (⟨#[88]⟩ : ByteArray)]) rfl rfl rfl rfl rfl (fill_nil))))) rfl rc4 rfl (by simpa using Kw.nil)) rfl ?_)
   rintro v13 Φ_14 D5 ⟨fr12, h13⟩
   replace h13 : OSl RS 9 1 Φ_14 [] v13 ([(⟨#[]⟩ : ByteArray), (⟨#[120]⟩ : ByteArray), (⟨#[88]⟩ : ByteArray)] : List ByteArray) := by simpa using h13
   replace h2 := h2.f0 fr12
   replace h12 := fr12 _ _ (by simp) h12
   obtain ⟨x9, hx9, h⟩ := bs h
   refine WM.one 6 (by kernel_rfl) (mc rfl (fun _ v Φx D w1 hq hw => Kn.of Kf.nil (ai2 0 1 rfl rfl) hw) (k_call (js := [1]) (R := [ob v13, ob v3]) Fun_64 rfl rfl (fun w1 hw ap hl => m_s_l1Str_ok N (bx hw ap hl) (⟨p0.b, x8.2.i, x8.2.h⟩ : Tl1Cur) ([(⟨#[]⟩ : ByteArray), (⟨#[120]⟩ : ByteArray), (⟨#[88]⟩ : ByteArray)] : List ByteArray) (ph0_0.y (hw.uo ap)) h12 (h13.rsl.x (Dj.app (ap.q 0 rfl) dN))  hx9)) rfl ?_)
   rintro v14 Φ_15 F8 ⟨ap9, fr13, rfl, rfl, e8, h14⟩
   replace h2 := h2.fr fr13 (ap9.q 1 rfl) dN
   refine mq 7 rfl (by kernel_rfl) (kN [0, 1]) (q_build (vs := [(0, iV x8.1), (1, .string x9.1)]) (C := #[iV x8.1, .string x9.1, iV 0, iV 0, .string (⟨#[]⟩ : ByteArray)]) Pl_60 Zr_60 rfl (fill_cons (C' := [iV x8.1, .string ⟨#[]⟩, iV 0, iV 0, .string ⟨#[]⟩]) rfl rfl rfl rfl rfl (fill_cons (C' := [iV x8.1, .string x9.1, iV 0, iV 0, .string ⟨#[]⟩]) rfl rfl rfl rfl rfl (fill_nil)))) rfl ?_
   have rc5 : RC RTArg 5 Φ_15 ([[]] : List (List Nat)) [iV x8.1, .string x9.1, iV 0, iV 0, .string (⟨#[]⟩ : ByteArray)] ([(⟨x8.1, x9.1, (⟨0, 0, (⟨#[]⟩ : ByteArray)⟩ : TVal)⟩ : TArg)] : List TArg) := RC.cons (c := [iV x8.1, .string x9.1, iV 0, iV 0, .string (⟨#[]⟩ : ByteArray)]) (cells := []) ⟨rfl, rfl⟩ rfl (RC.nil _ _ _)
   refine WM.one 8 (by kernel_rfl) (me rfl (fun _ v Φx D w1 hq hw => Kn.of Kf.nil (ai2 0 1 rfl rfl) hw) (e_lit (vs := [(0, .agg [iV x8.1, .string x9.1, iV 0, iV 0, .string (⟨#[]⟩ : ByteArray)].toArray)]) (C := #[iV x8.1, .string x9.1, iV 0, iV 0, .string (⟨#[]⟩ : ByteArray)]) RTArg.lasts Sl_33 Zr_60 rfl rfl rfl rfl (fill_made MC_60_1 (fill_cons (C' := [iV x8.1, .string x9.1, iV 0, iV 0, .string (⟨#[]⟩ : ByteArray)]) rfl rfl rfl rfl rfl (fill_nil))) rfl rc5 rfl (by simpa using Kw.nil)) rfl ?_)
   rintro v15 Φ_16 D6 ⟨fr14, h15⟩
   replace h15 : OSl RTArg 60 5 Φ_16 [] v15 ([(⟨x8.1, x9.1, (⟨0, 0, (⟨#[]⟩ : ByteArray)⟩ : TVal)⟩ : TArg)] : List TArg) := by simpa using h15
   replace h2 := h2.f0 fr14
   replace h14 := fr14 _ _ (by simp) h14
   obtain ⟨x10, hx10, h⟩ := bs h
   refine WM.one 9 (by kernel_rfl) (me rfl (fun _ v Φx D w1 hq hw => Kn.of Kf.nil (ai2 0 1 rfl rfl) hw) (e_appF RTArg.lasts RTArg.one RTArg.flat Sl_33 Ei_60 rfl rfl rfl rfl rfl (js := [3]) (Rr := [ob v15, [pb0], ob v13]) rfl h2 h15.rsl hx10) rfl ?_)
   rintro v16 Φ_17 D7 ⟨⟨ap10, fr15⟩, h16⟩
   replace h14 := fr15 _ _ ((ap10.q 1 rfl) _ (by simp)) h14
   refine amm 1 [10, 1] [0, 1] rfl rfl ?_
   refine on1 11 (ms1 0 rfl nk Sz_33 rfl h16.one ?_)
   refine WM.nil (by kernel_rfl) ?_
   exact wo [0, 1] [0, 0] (K (_, _, _, _, _) ⟨h, h16, h14⟩)
  have rc6 : RC RS 1 Φ_3 ([[], [], []] : List (List Nat)) [.string (⟨#[]⟩ : ByteArray), .string (⟨#[120]⟩ : ByteArray), .string (⟨#[88]⟩ : ByteArray)] ([(⟨#[]⟩ : ByteArray), (⟨#[120]⟩ : ByteArray), (⟨#[88]⟩ : ByteArray)] : List ByteArray) := RC.cons (c := [.string (⟨#[]⟩ : ByteArray)]) (cells := [.string (⟨#[120]⟩ : ByteArray), .string (⟨#[88]⟩ : ByteArray)]) ⟨rfl, rfl⟩ rfl (RC.cons (c := [.string (⟨#[120]⟩ : ByteArray)]) (cells := [.string (⟨#[88]⟩ : ByteArray)]) ⟨rfl, rfl⟩ rfl (RC.cons (c := [.string (⟨#[88]⟩ : ByteArray)]) (cells := []) ⟨rfl, rfl⟩ rfl (RC.nil _ _ _)))
  refine me rfl (fun _ v Φx D w1 hq hw => Kn.of Kf.nil (ai2 0 1 rfl rfl) hw) (e_lit (vs := [(0, .string (⟨#[]⟩ : ByteArray)), (1, .string (⟨#[120]⟩ : ByteArray)), (2, .string (⟨#[88]⟩ : ByteArray))]) (C := #[.string (⟨#[]⟩ : ByteArray), .string (⟨#[120]⟩ : ByteArray), .string (⟨#[88]⟩ : ByteArray)]) RS.lasts Sl_68 Zr_9 rfl rfl rfl rfl (fill_made MC_9_3 (fill_cons (C' := [.string (⟨#[]⟩ : ByteArray), .string ⟨#[]⟩, .string ⟨#[]⟩]) rfl rfl rfl rfl rfl (fill_cons (C' := [.string (⟨#[]⟩ : ByteArray), .string (⟨#[120]⟩ : ByteArray), .string ⟨#[]⟩]) rfl rfl rfl rfl rfl (fill_cons (C' := [.string (⟨#[]⟩ : ByteArray), .string (⟨#[120]⟩ : ByteArray), .string (⟨#[88]⟩ : ByteArray)]) rfl rfl rfl rfl rfl (fill_nil))))) rfl rc6 rfl (by simpa using Kw.nil)) rfl ?_
  rintro v17 Φ_18 D8 ⟨fr16, h17⟩
  replace h17 : OSl RS 9 1 Φ_18 [] v17 ([(⟨#[]⟩ : ByteArray), (⟨#[120]⟩ : ByteArray), (⟨#[88]⟩ : ByteArray)] : List ByteArray) := by simpa using h17
  replace h2 := h2.f0 fr16
  replace h4 := fr16 _ _ (by simp) h4
  obtain ⟨x11, hx11, h⟩ := bs h
  refine WM.one 3 (by kernel_rfl) (mc rfl (fun _ v Φx D w1 hq hw => Kn.of Kf.nil (ai2 0 1 rfl rfl) hw) (k_call (js := [1]) (R := [ob v17, ob v3]) Fun_63 rfl rfl (fun w1 hw ap hl => m_s_l1Below_ok N (bx hw ap hl) (⟨p0.b, x3.2.i, x3.2.h⟩ : Tl1Cur) 5 (ph0_0.y (hw.uo ap)) h4  hx11)) rfl ?_)
  rintro v18 Φ_19 F9 ⟨ap11, fr17, rfl, rfl, e9, h18⟩
  replace h2 := h2.fr fr17 (ap11.q 1 rfl) dN
  replace h17 := h17.fr fr17 (ap11.q 0 rfl) dN
  obtain ⟨x12, hx12, h⟩ := bs h
  refine WM.one 6 (by kernel_rfl) (mc rfl (fun _ v Φx D w1 hq hw => Kn.of Kf.nil (ai2 0 1 rfl rfl) hw) (k_call (js := [0]) (R := [ob v17, ob v3]) Fun_64 rfl rfl (fun w1 hw ap hl => m_s_l1Str_ok N (bx hw ap hl) (⟨p0.b, x11.2.i, x11.2.h⟩ : Tl1Cur) ([(⟨#[]⟩ : ByteArray), (⟨#[120]⟩ : ByteArray), (⟨#[88]⟩ : ByteArray)] : List ByteArray) (ph0_0.y (hw.uo ap)) h18 (h17.rsl.x (Dj.app (ap.q 0 rfl) dN))  hx12)) rfl ?_)
  rintro v19 Φ_20 F10 ⟨ap12, fr18, rfl, rfl, e10, h19⟩
  replace h2 := h2.fr fr18 (ap12.q 1 rfl) dN
  refine mq 7 rfl (by kernel_rfl) (kN [0, 1]) (q_build (vs := [(0, iV x11.1), (1, .string x12.1)]) (C := #[iV x11.1, .string x12.1, iV 0, iV 0, .string (⟨#[]⟩ : ByteArray)]) Pl_60 Zr_60 rfl (fill_cons (C' := [iV x11.1, .string ⟨#[]⟩, iV 0, iV 0, .string ⟨#[]⟩]) rfl rfl rfl rfl rfl (fill_cons (C' := [iV x11.1, .string x12.1, iV 0, iV 0, .string ⟨#[]⟩]) rfl rfl rfl rfl rfl (fill_nil)))) rfl ?_
  have rc7 : RC RTArg 5 Φ_20 ([[]] : List (List Nat)) [iV x11.1, .string x12.1, iV 0, iV 0, .string (⟨#[]⟩ : ByteArray)] ([(⟨x11.1, x12.1, (⟨0, 0, (⟨#[]⟩ : ByteArray)⟩ : TVal)⟩ : TArg)] : List TArg) := RC.cons (c := [iV x11.1, .string x12.1, iV 0, iV 0, .string (⟨#[]⟩ : ByteArray)]) (cells := []) ⟨rfl, rfl⟩ rfl (RC.nil _ _ _)
  refine WM.one 8 (by kernel_rfl) (me rfl (fun _ v Φx D w1 hq hw => Kn.of Kf.nil (ai2 0 1 rfl rfl) hw) (e_lit (vs := [(0, .agg [iV x11.1, .string x12.1, iV 0, iV 0, .string (⟨#[]⟩ : ByteArray)].toArray)]) (C := #[iV x11.1, .string x12.1, iV 0, iV 0, .string (⟨#[]⟩ : ByteArray)]) RTArg.lasts Sl_33 Zr_60 rfl rfl rfl rfl (fill_made MC_60_1 (fill_cons (C' := [iV x11.1, .string x12.1, iV 0, iV 0, .string (⟨#[]⟩ : ByteArray)]) rfl rfl rfl rfl rfl (fill_nil))) rfl rc7 rfl (by simpa using Kw.nil)) rfl ?_)
  rintro v20 Φ_21 D9 ⟨fr19, h20⟩
  replace h20 : OSl RTArg 60 5 Φ_21 [] v20 ([(⟨x11.1, x12.1, (⟨0, 0, (⟨#[]⟩ : ByteArray)⟩ : TVal)⟩ : TArg)] : List TArg) := by simpa using h20
  replace h2 := h2.f0 fr19
  replace h19 := fr19 _ _ (by simp) h19
  obtain ⟨x13, hx13, h⟩ := bs h
  refine WM.one 9 (by kernel_rfl) (me rfl (fun _ v Φx D w1 hq hw => Kn.of Kf.nil (ai2 0 1 rfl rfl) hw) (e_appF RTArg.lasts RTArg.one RTArg.flat Sl_33 Ei_60 rfl rfl rfl rfl rfl (js := [3]) (Rr := [ob v20, [pb0], ob v17]) rfl h2 h20.rsl hx13) rfl ?_)
  rintro v21 Φ_22 D10 ⟨⟨ap13, fr20⟩, h21⟩
  replace h19 := fr20 _ _ ((ap13.q 1 rfl) _ (by simp)) h19
  refine amm 1 [10, 1] [0, 1] rfl rfl ?_
  refine on1 11 (ms1 0 rfl nk Sz_33 rfl h21.one ?_)
  refine WM.nil (by kernel_rfl) ?_
  exact wo [0, 1] [0, 0] (K (_, _, _, _, _) ⟨h, h21, h19⟩)
 refine att 5 [] rfl ?_
 refine ch h rfl ?_ ?_ <;> intro h
 ·refine blk ?_
  refine lin (σ := Hp × (List TArg) × Value × Int × Int) (fun s => [(0, pQ pb0), (2, pQ b_1), (3, pQ b_2)]) (fun s => St w0 s.1 [(b_2, .cells #[.string x2.1.Kind, s.2.2.1, .bool x2.1.Not] 35 (0, 0)), (b_1, .cells #[.string (⟨#[]⟩ : ByteArray), .slice none 0 0, .bool false] 35 (0, 0))] [[pb0], ob s.2.2.1]) (fun m s => m_s_l6Any_l3 N p0 x2 m s.2.1 s.2.2.2.1 s.2.2.2.2 = some r ∧ (OSl RTArg 60 5 s.1 [] s.2.2.1 s.2.1) ∧ (s.1 pb0 = some (.cells #[pv0_0, iV s.2.2.2.1, iV s.2.2.2.2] 107 (0, 0)))) (Φ_3, x2.1.Args, v3, x3.2.i, x3.2.h) N ⟨h, h2, h4⟩ (sx [0, 0] [0, 0]) (fun n3 ih3 s hm => ?_)
  obtain ⟨Φ_23, s8, u3, s9, s10⟩ := s
  obtain ⟨h, k5, k6⟩ := hm
  dsimp only at h k5 k6 ⊢
  unfold m_s_l6Any_l3 at h
  refine sq <| sq <| wm [0, 1] [] rfl <| amm 2 [0, 1, 1, 0] [0, 1] rfl rfl <| mq 2 rfl (by kernel_rfl) (kN [0, 1]) (q_lenR Sl_33 rfl rfl k5.rsl) rfl <| amm 1 [3] [0, 1] rfl rfl ?_
  obtain ⟨x14, hx14, h⟩ := bs h
  refine WM.one 4 (by kernel_rfl) (mc rfl (fun _ v Φx D w1 hq hw => Kn.of Kf.nil (ai2 0 1 rfl rfl) hw) (k_call (js := [0]) (R := [ob u3]) Fun_63 rfl rfl (fun w1 hw ap hl => m_s_l1Below_ok N (bx hw ap hl) (⟨p0.b, s9, s10⟩ : Tl1Cur) 2 (ph0_0.y (hw.uo ap)) k6  hx14)) rfl ?_)
  rintro v22 Φ_24 F11 ⟨ap14, fr21, rfl, rfl, e11, h22⟩
  replace k5 := k5.fr fr21 (ap14.q 0 rfl) dN
  refine amm 2 [5, 6] [0, 1] rfl rfl <| WM.nil (by kernel_rfl) ?_
  refine ch h rfl ?_ ?_ <;> intro h
  ·refine att 2 [] rfl <| wm [0, 1] [7] rfl <| amm 3 [0, 1, 1, 0, 2] [0, 1] rfl rfl ?_
   obtain ⟨x15, hx15, h⟩ := bs h
   refine WM.one 3 (by kernel_rfl) (mc rfl (fun _ v Φx D w1 hq hw => Kn.of Kf.nil (ai2 0 1 rfl rfl) hw) (k_call (js := [0]) (R := [ob u3]) Fun_187 rfl rfl (fun w1 hw ap hl => m_s_l6Arg_ok N (bx hw ap hl) (⟨p0.b, x14.2.i, x14.2.h⟩ : Tl1Cur) (ph0_0.y (hw.uo ap)) h22  hx15)) rfl ?_)
   rintro v23 Φ_25 F12 ⟨ap15, fr22, rfl, rfl, e12, h23⟩
   replace k5 := k5.fr fr22 (ap15.q 0 rfl) dN
   have rc8 : RC RTArg 5 Φ_25 ([[]] : List (List Nat)) [iV x15.1.K, .string x15.1.S, iV x15.1.V.K, iV x15.1.V.N, .string x15.1.V.S] ([x15.1] : List TArg) := RC.cons (c := [iV x15.1.K, .string x15.1.S, iV x15.1.V.K, iV x15.1.V.N, .string x15.1.V.S]) (cells := []) ⟨rfl, rfl⟩ rfl (RC.nil _ _ _)
   refine WM.one 4 (by kernel_rfl) (me rfl (fun _ v Φx D w1 hq hw => Kn.of Kf.nil (ai2 0 1 rfl rfl) hw) (e_lit (vs := [(0, .agg [iV x15.1.K, .string x15.1.S, iV x15.1.V.K, iV x15.1.V.N, .string x15.1.V.S].toArray)]) (C := #[iV x15.1.K, .string x15.1.S, iV x15.1.V.K, iV x15.1.V.N, .string x15.1.V.S]) RTArg.lasts Sl_33 Zr_60 rfl rfl rfl rfl (fill_made MC_60_1 (fill_cons (C' := [iV x15.1.K, .string x15.1.S, iV x15.1.V.K, iV x15.1.V.N, .string x15.1.V.S]) rfl rfl rfl rfl rfl (fill_nil))) rfl rc8 rfl (by simpa using Kw.nil)) rfl ?_)
   rintro v24 Φ_26 D11 ⟨fr23, h24⟩
   replace h24 : OSl RTArg 60 5 Φ_26 [] v24 ([x15.1] : List TArg) := by simpa using h24
   replace k5 := k5.f0 fr23
   replace h23 := fr23 _ _ (by simp) h23
   obtain ⟨x16, hx16, h⟩ := bs h
   refine WM.one 5 (by kernel_rfl) (me rfl (fun _ v Φx D w1 hq hw => Kn.of Kf.nil (ai2 0 1 rfl rfl) hw) (e_appF RTArg.lasts RTArg.one RTArg.flat Sl_33 Ei_60 rfl rfl rfl rfl rfl (js := [2]) (Rr := [ob v24, [pb0]]) rfl k5 h24.rsl hx16) rfl ?_)
   rintro v25 Φ_27 D12 ⟨⟨ap16, fr24⟩, h25⟩
   replace h23 := fr24 _ _ ((ap16.q 1 rfl) _ (by simp)) h23
   refine amm 1 [6, 1] [0, 1] rfl rfl ?_
   refine on1 7 (ms1 0 rfl nk Sz_33 rfl h25.one ?_)
   refine WM.nil (by kernel_rfl) <| ib ?_
   exact lb [2, 0] [0, 0] (ih3 (_, _, _, _, _) ⟨h, h25, h23⟩)
  refine xt rfl ?_
  exact wo [0, 0] [0, 0] (K (_, _, _, _, _, _) ⟨h, k5, h22⟩)
 refine WT.skip ?_
 exact wo [0, 0] [0, 0] (K (_, _, _, _, _, _) ⟨h, h2, h4⟩)
theorem m_s_l7Any_ok (w0 : Base Ψ Φ [[pb0]].flatten) (p0 : Tl1Cur) (ph0_0 : RSl (RI .u8) 1 Ψ pG0_0 pv0_0 p0.b) (pp0 : Φ pb0 = some (.cells #[pv0_0, iV p0.i, iV p0.h] 107 (0, 0))) {r : TCond × Tl1Cur} (h : m_s_l7Any N p0 = some r) :
  Calls prog 143 [pQ pb0].toArray w0.w (PostG Φ w0.w [[pb0]].flatten (fun Φ' Fs v => v = .agg [iV r.1.Op, iV r.1.L.K, .string r.1.L.S, iV r.1.L.V.K, iV r.1.L.V.N, .string r.1.L.V.S, iV r.1.R.K, .string r.1.R.S, iV r.1.R.V.K, iV r.1.R.V.N, .string r.1.R.V.S].toArray ∧ Fs = [[pb0]] ∧ r.2.b = p0.b ∧ Φ' pb0 = some (.cells #[pv0_0, iV r.2.i, iV r.2.h] 107 (0, 0)))) := by
 refine eL func143 rfl ntmps143 rfl (L := [[pb0]]) w0 (fun hF => ?_)
 unfold m_s_l7Any at h
 refine sr <| lnz Zr_62 rfl fun b_1 => arr 4 [] rfl <| kcb [0] h rfl rfl rfl rfl (fun b ap z q => m_s_l7Draw_ok N b p0 (ph0_0.y z) pp0 q) ?_
 rintro x1 h v1 Φ_1 F1 ⟨ap1, fr1, rfl, rfl, e1, h1⟩
 refine lnz Zr_62 rfl fun b_2 => soN 0 Sz_62 rfl ⟨rfl, rfl, rfl, rfl, rfl, rfl, rfl, rfl, rfl, rfl, rfl, trivial⟩ rfl ?_
 refine arr 5 [] rfl <| kcb [0] h rfl rfl rfl rfl (fun b ap z q => m_s_l1Below_ok N b (⟨p0.b, x1.2.i, x1.2.h⟩ : Tl1Cur) 8 (ph0_0.y z) h1 q) ?_
 rintro x2 h v2 Φ_2 F2 ⟨ap2, fr2, rfl, rfl, e2, h2⟩
 refine art 7 [] rfl ?_
 refine cut (σ := Hp × Int × Int × Int × Int × ByteArray × Int × Int × ByteArray × Int × ByteArray × Int × Int × ByteArray) (fun s => [(2, pQ b_1), (3, pQ b_2)]) (fun s => St w0 s.1 [(b_2, .cells #[iV s.2.2.2.1, iV s.2.2.2.2.1, .string s.2.2.2.2.2.1, iV s.2.2.2.2.2.2.1, iV s.2.2.2.2.2.2.2.1, .string s.2.2.2.2.2.2.2.2.1, iV s.2.2.2.2.2.2.2.2.2.1, .string s.2.2.2.2.2.2.2.2.2.2.1, iV s.2.2.2.2.2.2.2.2.2.2.2.1, iV s.2.2.2.2.2.2.2.2.2.2.2.2.1, .string s.2.2.2.2.2.2.2.2.2.2.2.2.2] 62 (0, 0)), (b_1, .cells #[iV 0, iV 0, .string (⟨#[]⟩ : ByteArray), iV 0, iV 0, .string (⟨#[]⟩ : ByteArray), iV 0, .string (⟨#[]⟩ : ByteArray), iV 0, iV 0, .string (⟨#[]⟩ : ByteArray)] 62 (0, 0))] [[pb0]]) (fun s => m_s_l7Any_j1 N p0 s.2.1 s.2.2.1 s.2.2.2.1 s.2.2.2.2.1 s.2.2.2.2.2.1 s.2.2.2.2.2.2.1 s.2.2.2.2.2.2.2.1 s.2.2.2.2.2.2.2.2.1 s.2.2.2.2.2.2.2.2.2.1 s.2.2.2.2.2.2.2.2.2.2.1 s.2.2.2.2.2.2.2.2.2.2.2.1 s.2.2.2.2.2.2.2.2.2.2.2.2.1 s.2.2.2.2.2.2.2.2.2.2.2.2.2 = some r ∧ (s.1 pb0 = some (.cells #[pv0_0, iV s.2.1, iV s.2.2.1] 107 (0, 0)))) (fun s hm => ?_) (fun K => ?_)
 ·clear h
  obtain ⟨Φ_3, s1, s2, s3, s4, s5, s6, s7, s8, s9, s10, s11, s12, s13⟩ := s
  obtain ⟨h, k1⟩ := hm
  dsimp only at h k1 ⊢
  unfold m_s_l7Any_j1 at h
  refine atr 4 [11] rfl <| soN 1 Sz_62 rfl ⟨rfl, rfl, rfl, rfl, rfl, rfl, rfl, rfl, rfl, rfl, rfl, trivial⟩ rfl ?_
  refine en ?_
  exact rtg [0] hF (resOk.one (rv_cell Tn_62 rfl (fun w1 hw => hw.rgO (i := 1) rfl 0 11 [iV s3, iV s4, .string s5, iV s6, iV s7, .string s8, iV s9, .string s10, iV s11, iV s12, .string s13] rfl) rfl)) rfl (by cases h; exact fun w1 hw => ⟨rfl, rfl, rfl, k1⟩)
 refine ch h rfl ?_ ?_ <;> intro h
 ·refine atr 2 [] rfl <| kcb [0] h rfl rfl rfl rfl (fun b ap z q => m_s_l1Below_ok N b (⟨p0.b, x2.2.i, x2.2.h⟩ : Tl1Cur) 6 (ph0_0.y z) h2 q) ?_
  rintro x3 h v3 Φ_4 F3 ⟨ap3, fr3, rfl, rfl, e3, h3⟩
  refine lf Fld_62_0 rfl rfl rfl <| so1 0 Sz_3 rfl rfl ?_
  refine en ?_
  exact wo [0] [0, 0] (K (_, _, _, _, _, _, _, _, _, _, _, _, _, _) ⟨h, h3⟩)
 refine att 5 [] rfl ?_
 refine ch h rfl ?_ ?_ <;> intro h
 ·refine atr 2 [] rfl <| kcb [0] h rfl rfl rfl rfl (fun b ap z q => m_s_l6Arg_ok N b (⟨p0.b, x2.2.i, x2.2.h⟩ : Tl1Cur) (ph0_0.y z) h2 q) ?_
  rintro x4 h v4 Φ_5 F4 ⟨ap4, fr4, rfl, rfl, e4, h4⟩
  refine lf Fld_62_1 rfl rfl rfl <| soN 0 Sz_60 rfl ⟨rfl, rfl, rfl, rfl, rfl, trivial⟩ rfl ?_
  refine en ?_
  exact wo [0] [0, 0] (K (_, _, _, _, _, _, _, _, _, _, _, _, _, _) ⟨h, h4⟩)
 refine att 5 [] rfl ?_
 refine ch h rfl ?_ ?_ <;> intro h
 ·refine atr 2 [] rfl <| kcb [0] h rfl rfl rfl rfl (fun b ap z q => m_s_l1Below_ok N b (⟨p0.b, x2.2.i, x2.2.h⟩ : Tl1Cur) 5 (ph0_0.y z) h2 q) ?_
  rintro x5 h v5 Φ_6 F5 ⟨ap5, fr5, rfl, rfl, e5, h5⟩
  refine lq (q_build (vs := [(0, iV x5.1)]) (C := #[iV x5.1, .string (⟨#[]⟩ : ByteArray), iV 0, iV 0, .string (⟨#[]⟩ : ByteArray)]) Pl_60 Zr_60 rfl (fill_cons (C' := [iV x5.1, .string ⟨#[]⟩, iV 0, iV 0, .string ⟨#[]⟩]) rfl rfl rfl rfl rfl (fill_nil))) rfl <| lf Fld_62_2 rfl rfl rfl <| soN 0 Sz_60 rfl ⟨rfl, rfl, rfl, rfl, rfl, trivial⟩ rfl ?_
  refine en ?_
  exact wo [0] [0, 0] (K (_, _, _, _, _, _, _, _, _, _, _, _, _, _) ⟨h, h5⟩)
 refine WT.skip ?_
 exact wo [0] [0, 0] (K (_, _, _, _, _, _, _, _, _, _, _, _, _, _) ⟨h, h2⟩)
theorem m_s_l8Any_ok (w0 : Base Ψ Φ [[pb0]].flatten) (p0 : Tl1Cur) (ph0_0 : RSl (RI .u8) 1 Ψ pG0_0 pv0_0 p0.b) (pp0 : Φ pb0 = some (.cells #[pv0_0, iV p0.i, iV p0.h] 107 (0, 0))) {r : TAct × Tl1Cur} (h : m_s_l8Any N p0 = some r) :
  Calls prog 144 [pQ pb0].toArray w0.w (PostG Φ w0.w [[pb0]].flatten (fun Φ' Fs v => ∃ (sr_0_0 : Value), v = .agg [iV r.1.Kind, .string r.1.Name, sr_0_0, iV r.1.N, .string r.1.Undo].toArray ∧ Fs = [ob sr_0_0, [pb0]] ∧ OSl RTExpr 116 11 Φ' [] sr_0_0 r.1.Args ∧ r.2.b = p0.b ∧ Φ' pb0 = some (.cells #[pv0_0, iV r.2.i, iV r.2.h] 107 (0, 0)))) := by
 refine eL func144 rfl ntmps144 rfl (L := [[pb0]]) w0 (fun hF => ?_)
 unfold m_s_l8Any at h
 refine sr <| lnz Zr_66 rfl fun b_1 => arr 4 [] rfl <| kcb [0] h rfl rfl rfl rfl (fun b ap z q => m_s_l8Draw_ok N b p0 2 (ph0_0.y z) pp0 q) ?_
 rintro x1 h v1 Φ_1 F1 ⟨ap1, fr1, v2, rfl, rfl, h1, e1, h2⟩
 refine lnz Zr_66 rfl fun b_2 => soN 0 Sz_66 rfl ⟨rfl, rfl, h1.one, rfl, rfl, trivial⟩ rfl ?_
 refine arr 5 [] rfl <| kcb [1] h rfl rfl rfl rfl (fun b ap z q => m_s_l1Below_ok N b (⟨p0.b, x1.2.i, x1.2.h⟩ : Tl1Cur) 10 (ph0_0.y z) h2 q) ?_
 rintro x2 h v3 Φ_2 F2 ⟨ap2, fr2, rfl, rfl, e2, h3⟩
 replace h1 := h1.fr fr2 (ap2.q 0 rfl) dN
 refine art 7 [] rfl ?_
 refine cut (σ := Hp × (List TExpr) × Value × Int × Int × Int × ByteArray × Int × ByteArray) (fun s => [(2, pQ b_1), (3, pQ b_2)]) (fun s => St w0 s.1 [(b_2, .cells #[iV s.2.2.2.2.2.1, .string s.2.2.2.2.2.2.1, s.2.2.1, iV s.2.2.2.2.2.2.2.1, .string s.2.2.2.2.2.2.2.2] 66 (0, 0)), (b_1, .cells #[iV 0, .string (⟨#[]⟩ : ByteArray), .slice none 0 0, iV 0, .string (⟨#[]⟩ : ByteArray)] 66 (0, 0))] [[pb0], ob s.2.2.1]) (fun s => m_s_l8Any_j1 N p0 s.2.1 s.2.2.2.1 s.2.2.2.2.1 s.2.2.2.2.2.1 s.2.2.2.2.2.2.1 s.2.2.2.2.2.2.2.1 s.2.2.2.2.2.2.2.2 = some r ∧ (OSl RTExpr 116 11 s.1 [] s.2.2.1 s.2.1) ∧ (s.1 pb0 = some (.cells #[pv0_0, iV s.2.2.2.1, iV s.2.2.2.2.1] 107 (0, 0)))) (fun s hm => ?_) (fun K => ?_)
 ·clear h
  obtain ⟨Φ_3, s1, u1, s2, s3, s4, s5, s6, s7⟩ := s
  obtain ⟨h, k1, k2⟩ := hm
  dsimp only at h k1 k2 ⊢
  unfold m_s_l8Any_j1 at h
  refine atr 4 [5] rfl <| soN 1 Sz_66 rfl ⟨rfl, rfl, k1.one, rfl, rfl, trivial⟩ rfl ?_
  refine en ?_
  exact rtg [1, 0] hF (resOk.one (rv_cell Tn_66 rfl (fun w1 hw => hw.rgO (i := 1) rfl 0 5 [iV s4, .string s5, u1, iV s6, .string s7] rfl) rfl)) rfl (by cases h; exact fun w1 hw => ⟨u1, rfl, rfl, k1, rfl, k2⟩)
 refine ch h rfl ?_ ?_ <;> intro h
 ·refine atr 2 [] rfl <| kcb [0] h rfl rfl rfl rfl (fun b ap z q => m_s_l1Below_ok N b (⟨p0.b, x2.2.i, x2.2.h⟩ : Tl1Cur) 8 (ph0_0.y z) h3 q) ?_
  rintro x3 h v4 Φ_4 F3 ⟨ap3, fr3, rfl, rfl, e3, h4⟩
  replace h1 := h1.fr fr3 (ap3.q 0 rfl) dN
  refine lf Fld_66_0 rfl rfl rfl <| so1 0 Sz_3 rfl rfl ?_
  refine en ?_
  exact wo [0, 0] [0, 0] (K (_, _, _, _, _, _, _, _, _) ⟨h, h1, h4⟩)
 refine att 5 [] rfl ?_
 refine ch h rfl ?_ ?_ <;> intro h
 ·refine atr 2 [] rfl ?_
  have rc1 : RC RS 1 Φ_2 ([[], [], []] : List (List Nat)) [.string (⟨#[]⟩ : ByteArray), .string (⟨#[65]⟩ : ByteArray), .string (⟨#[120]⟩ : ByteArray)] ([(⟨#[]⟩ : ByteArray), (⟨#[65]⟩ : ByteArray), (⟨#[120]⟩ : ByteArray)] : List ByteArray) := RC.cons (c := [.string (⟨#[]⟩ : ByteArray)]) (cells := [.string (⟨#[65]⟩ : ByteArray), .string (⟨#[120]⟩ : ByteArray)]) ⟨rfl, rfl⟩ rfl (RC.cons (c := [.string (⟨#[65]⟩ : ByteArray)]) (cells := [.string (⟨#[120]⟩ : ByteArray)]) ⟨rfl, rfl⟩ rfl (RC.cons (c := [.string (⟨#[120]⟩ : ByteArray)]) (cells := []) ⟨rfl, rfl⟩ rfl (RC.nil _ _ _)))
  refine le' (e_lit (vs := [(0, .string (⟨#[]⟩ : ByteArray)), (1, .string (⟨#[65]⟩ : ByteArray)), (2, .string (⟨#[120]⟩ : ByteArray))]) (C := #[.string (⟨#[]⟩ : ByteArray), .string (⟨#[65]⟩ : ByteArray), .string (⟨#[120]⟩ : ByteArray)]) RS.lasts Sl_68 Zr_9 rfl rfl rfl rfl (fill_made MC_9_3 (fill_cons (C' := [.string (⟨#[]⟩ : ByteArray), .string ⟨#[]⟩, .string ⟨#[]⟩]) rfl rfl rfl rfl rfl (fill_cons (C' := [.string (⟨#[]⟩ : ByteArray), .string (⟨#[65]⟩ : ByteArray), .string ⟨#[]⟩]) rfl rfl rfl rfl rfl (fill_cons (C' := [.string (⟨#[]⟩ : ByteArray), .string (⟨#[65]⟩ : ByteArray), .string (⟨#[120]⟩ : ByteArray)]) rfl rfl rfl rfl rfl (fill_nil))))) rfl rc1 rfl (by simpa using Kw.nil)) rfl ?_
  rintro v5 Φ_5 D1 ⟨fr4, h5⟩
  replace h5 : OSl RS 9 1 Φ_5 [] v5 ([(⟨#[]⟩ : ByteArray), (⟨#[65]⟩ : ByteArray), (⟨#[120]⟩ : ByteArray)] : List ByteArray) := by simpa using h5
  replace h1 := h1.f0 fr4
  replace h3 := fr4 _ _ (by simp) h3
  refine kcb [1] h rfl rfl rfl rfl (fun b ap z q => m_s_l1Str_ok N b (⟨p0.b, x2.2.i, x2.2.h⟩ : Tl1Cur) ([(⟨#[]⟩ : ByteArray), (⟨#[65]⟩ : ByteArray), (⟨#[120]⟩ : ByteArray)] : List ByteArray) (ph0_0.y z) h3 (h5.rsl.x (Dj.app (ap.q 0 rfl) dN)) q) ?_
  rintro x4 h v6 Φ_6 F4 ⟨ap4, fr5, rfl, rfl, e4, h6⟩
  replace h1 := h1.fr fr5 (ap4.q 1 rfl) dN
  refine lf Fld_66_1 rfl rfl rfl <| so1 0 Sz_9 rfl rfl ?_
  refine en ?_
  exact wo [0, 1] [0, 0] (K (_, _, _, _, _, _, _, _, _) ⟨h, h1, h6⟩)
 refine att 5 [] rfl ?_
 refine ch h rfl ?_ ?_ <;> intro h
 ·refine atr 2 [] rfl ?_
  have rc2 : RC (RI .i64) 1 Φ_2 ([[], [], [], []] : List (List Nat)) [iV (-1), iV 7, iV 8, iV 100001] ([(-1), 7, 8, 100001] : List Int) := RC.cons (c := [iV (-1)]) (cells := [iV 7, iV 8, iV 100001]) ⟨rfl, rfl⟩ rfl (RC.cons (c := [iV 7]) (cells := [iV 8, iV 100001]) ⟨rfl, rfl⟩ rfl (RC.cons (c := [iV 8]) (cells := [iV 100001]) ⟨rfl, rfl⟩ rfl (RC.cons (c := [iV 100001]) (cells := []) ⟨rfl, rfl⟩ rfl (RC.nil _ _ _))))
  refine le' (e_lit (vs := [(0, iV (-1)), (1, iV 7), (2, iV 8), (3, iV 100001)]) (C := #[iV (-1), iV 7, iV 8, iV 100001]) RI.lasts Sl_156 Zr_3 rfl rfl rfl rfl (fill_made MC_3_4 (fill_cons (C' := [iV (-1), iV 0, iV 0, iV 0]) rfl rfl rfl rfl rfl (fill_cons (C' := [iV (-1), iV 7, iV 0, iV 0]) rfl rfl rfl rfl rfl (fill_cons (C' := [iV (-1), iV 7, iV 8, iV 0]) rfl rfl rfl rfl rfl (fill_cons (C' := [iV (-1), iV 7, iV 8, iV 100001]) rfl rfl rfl rfl rfl (fill_nil)))))) rfl rc2 rfl (by simpa using Kw.nil)) rfl ?_
  rintro v7 Φ_7 D2 ⟨fr6, h7⟩
  replace h7 : OSl (RI .i64) 3 1 Φ_7 [] v7 ([(-1), 7, 8, 100001] : List Int) := by simpa using h7
  replace h1 := h1.f0 fr6
  replace h3 := fr6 _ _ (by simp) h3
  refine kcb [1] h rfl rfl rfl rfl (fun b ap z q => m_s_l1Int_ok N b (⟨p0.b, x2.2.i, x2.2.h⟩ : Tl1Cur) ([(-1), 7, 8, 100001] : List Int) (ph0_0.y z) h3 (h7.rsl.x (Dj.app (ap.q 0 rfl) dN)) q) ?_
  rintro x5 h v8 Φ_8 F5 ⟨ap5, fr7, rfl, rfl, e5, h8⟩
  replace h1 := h1.fr fr7 (ap5.q 1 rfl) dN
  refine lf Fld_66_3 rfl rfl rfl <| so1 0 Sz_3 rfl rfl ?_
  refine en ?_
  exact wo [0, 1] [0, 0] (K (_, _, _, _, _, _, _, _, _) ⟨h, h1, h8⟩)
 refine att 5 [] rfl ?_
 refine ch h rfl ?_ ?_ <;> intro h
 ·refine atr 2 [] rfl ?_
  have rc3 : RC RS 1 Φ_2 ([[], [], []] : List (List Nat)) [.string (⟨#[]⟩ : ByteArray), .string (⟨#[65]⟩ : ByteArray), .string (⟨#[120]⟩ : ByteArray)] ([(⟨#[]⟩ : ByteArray), (⟨#[65]⟩ : ByteArray), (⟨#[120]⟩ : ByteArray)] : List ByteArray) := RC.cons (c := [.string (⟨#[]⟩ : ByteArray)]) (cells := [.string (⟨#[65]⟩ : ByteArray), .string (⟨#[120]⟩ : ByteArray)]) ⟨rfl, rfl⟩ rfl (RC.cons (c := [.string (⟨#[65]⟩ : ByteArray)]) (cells := [.string (⟨#[120]⟩ : ByteArray)]) ⟨rfl, rfl⟩ rfl (RC.cons (c := [.string (⟨#[120]⟩ : ByteArray)]) (cells := []) ⟨rfl, rfl⟩ rfl (RC.nil _ _ _)))
  refine le' (e_lit (vs := [(0, .string (⟨#[]⟩ : ByteArray)), (1, .string (⟨#[65]⟩ : ByteArray)), (2, .string (⟨#[120]⟩ : ByteArray))]) (C := #[.string (⟨#[]⟩ : ByteArray), .string (⟨#[65]⟩ : ByteArray), .string (⟨#[120]⟩ : ByteArray)]) RS.lasts Sl_68 Zr_9 rfl rfl rfl rfl (fill_made MC_9_3 (fill_cons (C' := [.string (⟨#[]⟩ : ByteArray), .string ⟨#[]⟩, .string ⟨#[]⟩]) rfl rfl rfl rfl rfl (fill_cons (C' := [.string (⟨#[]⟩ : ByteArray), .string (⟨#[65]⟩ : ByteArray), .string ⟨#[]⟩]) rfl rfl rfl rfl rfl (fill_cons (C' := [.string (⟨#[]⟩ : ByteArray), .string (⟨#[65]⟩ : ByteArray), .string (⟨#[120]⟩ : ByteArray)]) rfl rfl rfl rfl rfl (fill_nil))))) rfl rc3 rfl (by simpa using Kw.nil)) rfl ?_
  rintro v9 Φ_9 D3 ⟨fr8, h9⟩
  replace h9 : OSl RS 9 1 Φ_9 [] v9 ([(⟨#[]⟩ : ByteArray), (⟨#[65]⟩ : ByteArray), (⟨#[120]⟩ : ByteArray)] : List ByteArray) := by simpa using h9
  replace h1 := h1.f0 fr8
  replace h3 := fr8 _ _ (by simp) h3
  refine kcb [1] h rfl rfl rfl rfl (fun b ap z q => m_s_l1Str_ok N b (⟨p0.b, x2.2.i, x2.2.h⟩ : Tl1Cur) ([(⟨#[]⟩ : ByteArray), (⟨#[65]⟩ : ByteArray), (⟨#[120]⟩ : ByteArray)] : List ByteArray) (ph0_0.y z) h3 (h9.rsl.x (Dj.app (ap.q 0 rfl) dN)) q) ?_
  rintro x6 h v10 Φ_10 F6 ⟨ap6, fr9, rfl, rfl, e6, h10⟩
  replace h1 := h1.fr fr9 (ap6.q 1 rfl) dN
  refine lf Fld_66_4 rfl rfl rfl <| so1 0 Sz_9 rfl rfl ?_
  refine en ?_
  exact wo [0, 1] [0, 0] (K (_, _, _, _, _, _, _, _, _) ⟨h, h1, h10⟩)
 refine att 5 [] rfl ?_
 refine ch h rfl ?_ ?_ <;> intro h
 ·refine wm [0, 1] [13] rfl <| amm 5 [0, 2, 1, 0, 2, 5, 7] [0, 1] rfl rfl ?_
  have rc4 : RC RS 1 Φ_2 ([[], []] : List (List Nat)) [.string (⟨#[]⟩ : ByteArray), .string (⟨#[42]⟩ : ByteArray)] ([(⟨#[]⟩ : ByteArray), (⟨#[42]⟩ : ByteArray)] : List ByteArray) := RC.cons (c := [.string (⟨#[]⟩ : ByteArray)]) (cells := [.string (⟨#[42]⟩ : ByteArray)]) ⟨rfl, rfl⟩ rfl (RC.cons (c := [.string (⟨#[42]⟩ : ByteArray)]) (cells := []) ⟨rfl, rfl⟩ rfl (RC.nil _ _ _))
  refine WM.one 3 (by kernel_rfl) (me rfl (fun _ v Φx D w1 hq hw => Kn.of Kf.nil (ai2 0 1 rfl rfl) hw) (e_lit (vs := [(0, .string (⟨#[]⟩ : ByteArray)), (1, .string (⟨#[42]⟩ : ByteArray))]) (C := #[.string (⟨#[]⟩ : ByteArray), .string (⟨#[42]⟩ : ByteArray)]) RS.lasts Sl_68 Zr_9 rfl rfl rfl rfl (fill_made MC_9_2 (fill_cons (C' := [.string (⟨#[]⟩ : ByteArray), .string ⟨#[]⟩]) rfl rfl rfl rfl rfl (fill_cons (C' := [.string (⟨#[]⟩ : ByteArray), .string (⟨#[42]⟩ : ByteArray)]) rfl rfl rfl rfl rfl (fill_nil)))) rfl rc4 rfl (by simpa using Kw.nil)) rfl ?_)
  rintro v11 Φ_11 D4 ⟨fr10, h11⟩
  replace h11 : OSl RS 9 1 Φ_11 [] v11 ([(⟨#[]⟩ : ByteArray), (⟨#[42]⟩ : ByteArray)] : List ByteArray) := by simpa using h11
  replace h1 := h1.f0 fr10
  replace h3 := fr10 _ _ (by simp) h3
  obtain ⟨x7, hx7, h⟩ := bs h
  refine WM.one 4 (by kernel_rfl) (mc rfl (fun _ v Φx D w1 hq hw => Kn.of Kf.nil (ai2 0 1 rfl rfl) hw) (k_call (js := [1]) (R := [ob v11, ob v2]) Fun_64 rfl rfl (fun w1 hw ap hl => m_s_l1Str_ok N (bx hw ap hl) (⟨p0.b, x2.2.i, x2.2.h⟩ : Tl1Cur) ([(⟨#[]⟩ : ByteArray), (⟨#[42]⟩ : ByteArray)] : List ByteArray) (ph0_0.y (hw.uo ap)) h3 (h11.rsl.x (Dj.app (ap.q 0 rfl) dN))  hx7)) rfl ?_)
  rintro v12 Φ_12 F7 ⟨ap7, fr11, rfl, rfl, e7, h12⟩
  replace h1 := h1.fr fr11 (ap7.q 1 rfl) dN
  obtain ⟨x8, hx8, h⟩ := bs h
  refine WM.one 6 (by kernel_rfl) (mc rfl (fun _ v Φx D w1 hq hw => Kn.of Kf.nil (ai2 0 1 rfl rfl) hw) (k_call (js := [0]) (R := [ob v11, ob v2]) Fun_187 rfl rfl (fun w1 hw ap hl => m_s_l6Arg_ok N (bx hw ap hl) (⟨p0.b, x7.2.i, x7.2.h⟩ : Tl1Cur) (ph0_0.y (hw.uo ap)) h12  hx8)) rfl ?_)
  rintro v13 Φ_13 F8 ⟨ap8, fr12, rfl, rfl, e8, h13⟩
  replace h1 := h1.fr fr12 (ap8.q 1 rfl) dN
  obtain ⟨x9, hx9, h⟩ := bs h
  refine WM.one 8 (by kernel_rfl) (mc rfl (fun _ v Φx D w1 hq hw => Kn.of Kf.nil (ai2 0 1 rfl rfl) hw) (k_call (js := [0]) (R := [ob v11, ob v2]) Fun_187 rfl rfl (fun w1 hw ap hl => m_s_l6Arg_ok N (bx hw ap hl) (⟨p0.b, x8.2.i, x8.2.h⟩ : Tl1Cur) (ph0_0.y (hw.uo ap)) h13  hx9)) rfl ?_)
  rintro v14 Φ_14 F9 ⟨ap9, fr13, rfl, rfl, e9, h14⟩
  replace h1 := h1.fr fr13 (ap9.q 1 rfl) dN
  refine mq 9 rfl (by kernel_rfl) (kN [0, 1]) (q_build (vs := [(0, .string x7.1), (1, .agg [iV x8.1.K, .string x8.1.S, iV x8.1.V.K, iV x8.1.V.N, .string x8.1.V.S].toArray), (2, .agg [iV x9.1.K, .string x9.1.S, iV x9.1.V.K, iV x9.1.V.N, .string x9.1.V.S].toArray)]) (C := #[.string x7.1, iV x8.1.K, .string x8.1.S, iV x8.1.V.K, iV x8.1.V.N, .string x8.1.V.S, iV x9.1.K, .string x9.1.S, iV x9.1.V.K, iV x9.1.V.N, .string x9.1.V.S]) Pl_116 Zr_116 rfl (fill_cons (C' := [.string x7.1, iV 0, .string ⟨#[]⟩, iV 0, iV 0, .string ⟨#[]⟩, iV 0, .string ⟨#[]⟩, iV 0, iV 0, .string ⟨#[]⟩]) rfl rfl rfl rfl rfl (fill_cons (C' := [.string x7.1, iV x8.1.K, .string x8.1.S, iV x8.1.V.K, iV x8.1.V.N, .string x8.1.V.S, iV 0, .string ⟨#[]⟩, iV 0, iV 0, .string ⟨#[]⟩]) rfl rfl rfl rfl rfl (fill_cons (C' := [.string x7.1, iV x8.1.K, .string x8.1.S, iV x8.1.V.K, iV x8.1.V.N, .string x8.1.V.S, iV x9.1.K, .string x9.1.S, iV x9.1.V.K, iV x9.1.V.N, .string x9.1.V.S]) rfl rfl rfl rfl rfl (fill_nil))))) rfl ?_
  have rc5 : RC RTExpr 11 Φ_14 ([[]] : List (List Nat)) [.string x7.1, iV x8.1.K, .string x8.1.S, iV x8.1.V.K, iV x8.1.V.N, .string x8.1.V.S, iV x9.1.K, .string x9.1.S, iV x9.1.V.K, iV x9.1.V.N, .string x9.1.V.S] ([(⟨x7.1, x8.1, x9.1⟩ : TExpr)] : List TExpr) := RC.cons (c := [.string x7.1, iV x8.1.K, .string x8.1.S, iV x8.1.V.K, iV x8.1.V.N, .string x8.1.V.S, iV x9.1.K, .string x9.1.S, iV x9.1.V.K, iV x9.1.V.N, .string x9.1.V.S]) (cells := []) ⟨rfl, rfl⟩ rfl (RC.nil _ _ _)
  refine WM.one 10 (by kernel_rfl) (me rfl (fun _ v Φx D w1 hq hw => Kn.of Kf.nil (ai2 0 1 rfl rfl) hw) (e_lit (vs := [(0, .agg [.string x7.1, iV x8.1.K, .string x8.1.S, iV x8.1.V.K, iV x8.1.V.N, .string x8.1.V.S, iV x9.1.K, .string x9.1.S, iV x9.1.V.K, iV x9.1.V.N, .string x9.1.V.S].toArray)]) (C := #[.string x7.1, iV x8.1.K, .string x8.1.S, iV x8.1.V.K, iV x8.1.V.N, .string x8.1.V.S, iV x9.1.K, .string x9.1.S, iV x9.1.V.K, iV x9.1.V.N, .string x9.1.V.S]) RTExpr.lasts Sl_64 Zr_116 rfl rfl rfl rfl (fill_made MC_116_1 (fill_cons (C' := [.string x7.1, iV x8.1.K, .string x8.1.S, iV x8.1.V.K, iV x8.1.V.N, .string x8.1.V.S, iV x9.1.K, .string x9.1.S, iV x9.1.V.K, iV x9.1.V.N, .string x9.1.V.S]) rfl rfl rfl rfl rfl (fill_nil))) rfl rc5 rfl (by simpa using Kw.nil)) rfl ?_)
  rintro v15 Φ_15 D5 ⟨fr14, h15⟩
  replace h15 : OSl RTExpr 116 11 Φ_15 [] v15 ([(⟨x7.1, x8.1, x9.1⟩ : TExpr)] : List TExpr) := by simpa using h15
  replace h1 := h1.f0 fr14
  replace h14 := fr14 _ _ (by simp) h14
  obtain ⟨x10, hx10, h⟩ := bs h
  refine WM.one 11 (by kernel_rfl) (me rfl (fun _ v Φx D w1 hq hw => Kn.of Kf.nil (ai2 0 1 rfl rfl) hw) (e_appF RTExpr.lasts RTExpr.one RTExpr.flat Sl_64 Ei_116 rfl rfl rfl rfl rfl (js := [3]) (Rr := [ob v15, [pb0], ob v11]) rfl h1 h15.rsl hx10) rfl ?_)
  rintro v16 Φ_16 D6 ⟨⟨ap10, fr15⟩, h16⟩
  replace h14 := fr15 _ _ ((ap10.q 1 rfl) _ (by simp)) h14
  refine amm 1 [12, 2] [0, 1] rfl rfl ?_
  refine on1 13 (ms1 0 rfl nk Sz_64 rfl h16.one ?_)
  refine WM.nil (by kernel_rfl) ?_
  exact wo [2, 0] [0, 0] (K (_, _, _, _, _, _, _, _, _) ⟨h, h16, h14⟩)
 refine WT.skip ?_
 exact wo [0, 0] [0, 0] (K (_, _, _, _, _, _, _, _, _) ⟨h, h1, h3⟩)
theorem m_s_l9Bend_ok (w0 : Base Ψ Φ [[pb0]].flatten) (p0 : Tl1Cur) (p1 : TRule) (ph0_0 : RSl (RI .u8) 1 Ψ pG0_0 pv0_0 p0.b) (pp0 : Φ pb0 = some (.cells #[pv0_0, iV p0.i, iV p0.h] 107 (0, 0))) (ph1_0 : RSl RTPat 3 Ψ pG1_0 pv1_0 p1.Pats) (ph1_1 : RSl RTCond 11 Ψ pG1_1 pv1_1 p1.Conds) (ph1_2 : RSl RTAct 5 Ψ pG1_2 pv1_2 p1.Acts) {r : TRule × Tl1Cur} (h : m_s_l9Bend N p0 p1 = some r) :
  Calls prog 75 [pQ pb0, .agg [.string p1.Name, iV p1.Sal, pv1_0, pv1_1, pv1_2].toArray].toArray w0.w (PostG Φ w0.w [[pb0]].flatten (fun Φ' Fs v => ∃ (sr_0_0 : Value) (Dr_0_0 : List Nat) (sr_0_1 : Value) (Gr_0_1 : List Nat) (sr_0_2 : Value) (Gr_0_2 : List Nat) (X : List Nat), v = .agg [.string r.1.Name, iV r.1.Sal, sr_0_0, sr_0_1, sr_0_2].toArray ∧ Fs = [ob sr_0_0, [pb0], X] ∧ OSl RTPat 35 3 Φ' Dr_0_0 sr_0_0 r.1.Pats ∧ (∀ k ∈ Dr_0_0, k ∈ (X ++ pG1_0)) ∧ RSl RTCond 11 Φ' Gr_0_1 sr_0_1 r.1.Conds ∧ (∀ k ∈ Gr_0_1, k ∈ (X ++ pG1_1)) ∧ RSl RTAct 5 Φ' Gr_0_2 sr_0_2 r.1.Acts ∧ (∀ k ∈ Gr_0_2, k ∈ (X ++ pG1_2)) ∧ r.2.b = p0.b ∧ Φ' pb0 = some (.cells #[pv0_0, iV r.2.i, iV r.2.h] 107 (0, 0)))) := by
 refine eL func75 rfl ntmps75 rfl (L := [[pb0]]) w0 (fun hF => ?_)
 unfold m_s_l9Bend at h
 refine sr <| lbx rfl fun b_1 => lnz Zr_28 rfl fun b_2 => en <| sr ?_
 have rc1 : RC OTPat 3 Φ ([] : List (List Nat)) [] ([] : List TPat) := RC.nil _ _ _
 refine le' (e_lit (vs := []) (C := #[]) OTPat.lasts Sl_24 Zr_35 rfl rfl rfl rfl (fill_made MC_35_0 (fill_nil)) rfl rc1 rfl (by simpa using Kw.nil)) rfl ?_
 rintro v1 Φ_1 D1 ⟨fr1, h1⟩
 replace h1 : OSl OTPat 35 3 Φ_1 [] v1 ([] : List TPat) := by simpa [List.append_assoc] using h1
 replace pp0 := fr1 _ _ (by simp) pp0
 refine WL.conv (S' := St w0 Φ_1 [(b_2, .cells #[.string (⟨#[]⟩ : ByteArray), iV 0, .slice none 0 0, .slice none 0 0, .slice none 0 0] 28 (0, 0)), (b_1, .cells #[.string p1.Name, iV p1.Sal, pv1_0, pv1_1, pv1_2] 28 (0, 0))] [[], ob v1, [pb0]]) (fun w1 hw => hw.addNil) <| arr 2 [2, 32] rfl <| lu0 ph1_0 fun h2 => ?_
 obtain ⟨x1, hx1, h⟩ := bs h
 replace h1 := h1.gives OTPat.gives
 refine le' (e_appS RTPat.lasts RTPat.knows RTPat.one Sl_24 Ei_35 rfl rfl rfl rfl rfl (js := [1]) (Rr := [[], [pb0]]) rfl h1 h2 (fun ap => dN) (fun ap => (ap.o ph1_0.old)) hx1) rfl ?_
 rintro v2 Φ_2 D2 ⟨⟨ap1, fr2⟩, hin1, h3⟩
 replace pp0 := fr2 _ _ ((ap1.q 1 rfl) _ (by simp)) pp0
 refine lf Fld_28_2 rfl rfl rfl <| so1 1 Sz_24 rfl h3.one ?_
 refine arr 5 [] rfl <| kcb [2] h rfl rfl rfl rfl (fun b ap z q => m_s_l1Below_ok N b p0 10 (ph0_0.y z) pp0 q) ?_
 rintro x2 h v3 Φ_3 F1 ⟨ap2, fr3, rfl, rfl, e1, h4⟩
 replace h3 := h3.fr fr3 (ap2.q 0 rfl) (Dj.sub (ap2.o ph1_0.old) (fun k hk => (by simpa using hin1 k hk : k ∈ pG1_0)))
 refine art 7 [] rfl <| wt0 <| tu ph1_1 fun h5 => tu ph1_2 fun h6 => ?_
 refine cut (σ := Hp × List Nat × (List TPat) × Value × List Nat × Int × Int × ByteArray × Int × (List TCond) × Value × List Nat × (List TAct) × Value × List Nat) (fun s => [(3, pQ b_1), (4, pQ b_2)]) (fun s => St w0 s.1 [(b_2, .cells #[.string (⟨#[]⟩ : ByteArray), iV 0, .slice none 0 0, .slice none 0 0, .slice none 0 0] 28 (0, 0)), (b_1, .cells #[.string s.2.2.2.2.2.2.2.1, iV s.2.2.2.2.2.2.2.2.1, s.2.2.2.1, s.2.2.2.2.2.2.2.2.2.2.1, s.2.2.2.2.2.2.2.2.2.2.2.2.2.1] 28 (0, 0))] [s.2.1, [pb0], ob s.2.2.2.1]) (fun s => m_s_l9Bend_j1 N p0 s.2.2.1 s.2.2.2.2.2.1 s.2.2.2.2.2.2.1 s.2.2.2.2.2.2.2.1 s.2.2.2.2.2.2.2.2.1 s.2.2.2.2.2.2.2.2.2.1 s.2.2.2.2.2.2.2.2.2.2.2.2.1 = some r ∧ (OSl RTPat 35 3 s.1 s.2.2.2.2.1 s.2.2.2.1 s.2.2.1) ∧ (∀ k ∈ s.2.2.2.2.1, k ∈ (pG1_0 ++ s.2.1)) ∧ (s.1 pb0 = some (.cells #[pv0_0, iV s.2.2.2.2.2.1, iV s.2.2.2.2.2.2.1] 107 (0, 0))) ∧ (RSl RTCond 11 s.1 s.2.2.2.2.2.2.2.2.2.2.2.1 s.2.2.2.2.2.2.2.2.2.2.1 s.2.2.2.2.2.2.2.2.2.1) ∧ (∀ k ∈ s.2.2.2.2.2.2.2.2.2.2.2.1, k ∈ (pG1_1 ++ s.2.1)) ∧ (RSl RTAct 5 s.1 s.2.2.2.2.2.2.2.2.2.2.2.2.2.2 s.2.2.2.2.2.2.2.2.2.2.2.2.2.1 s.2.2.2.2.2.2.2.2.2.2.2.2.1) ∧ (∀ k ∈ s.2.2.2.2.2.2.2.2.2.2.2.2.2.2, k ∈ (pG1_2 ++ s.2.1))) (fun s hm => ?_) (fun K => ?_)
 ·clear h
  obtain ⟨Φ_4, X1, s1, u1, D4, s2, s3, s4, s5, s6, u2, H1, s7, u3, H2⟩ := s
  obtain ⟨h, k1, i1, k2, k3, i2, k4, i3⟩ := hm
  dsimp only at h k1 i1 k2 k3 i2 k4 i3 ⊢
  unfold m_s_l9Bend_j1 at h
  refine atr 4 [37] rfl <| soN 0 Sz_28 rfl ⟨rfl, rfl, k1.one, k3.one, k4.one, trivial⟩ rfl ?_
  refine en ?_
  refine WT.ret hF (resOk.one (rv_cell Tn_28 rfl (fun w1 hw => hw.rgO (i := 0) rfl 0 5 [.string s4, iV s5, u1, u2, u3] rfl) rfl)) (fun w1 hw => ?_)
  cases h
  replace hw := hw.merge (js := [0]) (F := [X1].flatten) rfl (SP.eq (by simp))
  refine postG_of_St (js := [2, 1, 0]) hw rfl ⟨u1, D4, u2, H1, u3, H2, [X1].flatten, rfl, rfl, k1, (fun k hk => ((List.mem_append.1 (i1 k hk)).elim (fun h => (List.mem_append.2 (.inr h))) (fun h => (List.mem_append.2 (.inl (List.mem_flatten.2 ⟨X1, by simp, h⟩)))))), k3, (fun k hk => ((List.mem_append.1 (i2 k hk)).elim (fun h => (List.mem_append.2 (.inr h))) (fun h => (List.mem_append.2 (.inl (List.mem_flatten.2 ⟨X1, by simp, h⟩)))))), k4, (fun k hk => ((List.mem_append.1 (i3 k hk)).elim (fun h => (List.mem_append.2 (.inr h))) (fun h => (List.mem_append.2 (.inl (List.mem_flatten.2 ⟨X1, by simp, h⟩)))))), rfl, k2⟩
 refine ch h rfl ?_ ?_ <;> intro h
 ·refine atr 2 [] rfl ?_
  have rc2 : RC RS 1 Φ_3 ([[], [], []] : List (List Nat)) [.string (⟨#[]⟩ : ByteArray), .string (⟨#[65]⟩ : ByteArray), .string (⟨#[120]⟩ : ByteArray)] ([(⟨#[]⟩ : ByteArray), (⟨#[65]⟩ : ByteArray), (⟨#[120]⟩ : ByteArray)] : List ByteArray) := RC.cons (c := [.string (⟨#[]⟩ : ByteArray)]) (cells := [.string (⟨#[65]⟩ : ByteArray), .string (⟨#[120]⟩ : ByteArray)]) ⟨rfl, rfl⟩ rfl (RC.cons (c := [.string (⟨#[65]⟩ : ByteArray)]) (cells := [.string (⟨#[120]⟩ : ByteArray)]) ⟨rfl, rfl⟩ rfl (RC.cons (c := [.string (⟨#[120]⟩ : ByteArray)]) (cells := []) ⟨rfl, rfl⟩ rfl (RC.nil _ _ _)))
  refine le' (e_lit (vs := [(0, .string (⟨#[]⟩ : ByteArray)), (1, .string (⟨#[65]⟩ : ByteArray)), (2, .string (⟨#[120]⟩ : ByteArray))]) (C := #[.string (⟨#[]⟩ : ByteArray), .string (⟨#[65]⟩ : ByteArray), .string (⟨#[120]⟩ : ByteArray)]) RS.lasts Sl_68 Zr_9 rfl rfl rfl rfl (fill_made MC_9_3 (fill_cons (C' := [.string (⟨#[]⟩ : ByteArray), .string ⟨#[]⟩, .string ⟨#[]⟩]) rfl rfl rfl rfl rfl (fill_cons (C' := [.string (⟨#[]⟩ : ByteArray), .string (⟨#[65]⟩ : ByteArray), .string ⟨#[]⟩]) rfl rfl rfl rfl rfl (fill_cons (C' := [.string (⟨#[]⟩ : ByteArray), .string (⟨#[65]⟩ : ByteArray), .string (⟨#[120]⟩ : ByteArray)]) rfl rfl rfl rfl rfl (fill_nil))))) rfl rc2 rfl (by simpa using Kw.nil)) rfl ?_
  rintro v4 Φ_5 D5 ⟨fr4, h7⟩
  replace h7 : OSl RS 9 1 Φ_5 [] v4 ([(⟨#[]⟩ : ByteArray), (⟨#[65]⟩ : ByteArray), (⟨#[120]⟩ : ByteArray)] : List ByteArray) := by simpa using h7
  replace h5 := h5.f0 fr4
  replace h6 := h6.f0 fr4
  replace h3 := h3.f0 fr4
  replace h4 := fr4 _ _ (by simp) h4
  refine kcb [2] h rfl rfl rfl rfl (fun b ap z q => m_s_l1Str_ok N b (⟨p0.b, x2.2.i, x2.2.h⟩ : Tl1Cur) ([(⟨#[]⟩ : ByteArray), (⟨#[65]⟩ : ByteArray), (⟨#[120]⟩ : ByteArray)] : List ByteArray) (ph0_0.y z) h4 (h7.rsl.x (Dj.app (ap.q 0 rfl) dN)) q) ?_
  rintro x3 h v5 Φ_6 F2 ⟨ap3, fr5, rfl, rfl, e2, h8⟩
  replace h5 := h5.fr fr5 (ap3.o ph1_1.old)
  replace h6 := h6.fr fr5 (ap3.o ph1_2.old)
  replace h3 := h3.fr fr5 (ap3.q 2 rfl) (Dj.sub (ap3.o ph1_0.old) (fun k hk => (by simpa using hin1 k hk : k ∈ pG1_0)))
  refine lf Fld_28_0 rfl rfl rfl <| so1 1 Sz_9 rfl rfl ?_
  refine en ?_
  exact wo [2, 0, 1] [0, 0] (K (_, _, _, _, _, _, _, _, _, _, _, _, _, _, _) ⟨h, h3, (fun k hk => (List.mem_append.2 (.inl ((fun k hk => (by simpa using hin1 k hk : k ∈ pG1_0)) k hk)))), h8, h5, (fun k hk => (List.mem_append.2 (.inl hk))), h6, (fun k hk => (List.mem_append.2 (.inl hk)))⟩)
 refine att 5 [] rfl ?_
 refine ch h rfl ?_ ?_ <;> intro h
 ·refine atr 2 [] rfl ?_
  have rc3 : RC (RI .i64) 1 Φ_3 ([[], [], []] : List (List Nat)) [iV (-101), iV 101, iV 100] ([(-101), 101, 100] : List Int) := RC.cons (c := [iV (-101)]) (cells := [iV 101, iV 100]) ⟨rfl, rfl⟩ rfl (RC.cons (c := [iV 101]) (cells := [iV 100]) ⟨rfl, rfl⟩ rfl (RC.cons (c := [iV 100]) (cells := []) ⟨rfl, rfl⟩ rfl (RC.nil _ _ _)))
  refine le' (e_lit (vs := [(0, iV (-101)), (1, iV 101), (2, iV 100)]) (C := #[iV (-101), iV 101, iV 100]) RI.lasts Sl_156 Zr_3 rfl rfl rfl rfl (fill_made MC_3_3 (fill_cons (C' := [iV (-101), iV 0, iV 0]) rfl rfl rfl rfl rfl (fill_cons (C' := [iV (-101), iV 101, iV 0]) rfl rfl rfl rfl rfl (fill_cons (C' := [iV (-101), iV 101, iV 100]) rfl rfl rfl rfl rfl (fill_nil))))) rfl rc3 rfl (by simpa using Kw.nil)) rfl ?_
  rintro v6 Φ_7 D6 ⟨fr6, h9⟩
  replace h9 : OSl (RI .i64) 3 1 Φ_7 [] v6 ([(-101), 101, 100] : List Int) := by simpa using h9
  replace h5 := h5.f0 fr6
  replace h6 := h6.f0 fr6
  replace h3 := h3.f0 fr6
  replace h4 := fr6 _ _ (by simp) h4
  refine kcb [2] h rfl rfl rfl rfl (fun b ap z q => m_s_l1Int_ok N b (⟨p0.b, x2.2.i, x2.2.h⟩ : Tl1Cur) ([(-101), 101, 100] : List Int) (ph0_0.y z) h4 (h9.rsl.x (Dj.app (ap.q 0 rfl) dN)) q) ?_
  rintro x4 h v7 Φ_8 F3 ⟨ap4, fr7, rfl, rfl, e3, h10⟩
  replace h5 := h5.fr fr7 (ap4.o ph1_1.old)
  replace h6 := h6.fr fr7 (ap4.o ph1_2.old)
  replace h3 := h3.fr fr7 (ap4.q 2 rfl) (Dj.sub (ap4.o ph1_0.old) (fun k hk => (by simpa using hin1 k hk : k ∈ pG1_0)))
  refine lf Fld_28_1 rfl rfl rfl <| so1 1 Sz_3 rfl rfl ?_
  refine en ?_
  exact wo [2, 0, 1] [0, 0] (K (_, _, _, _, _, _, _, _, _, _, _, _, _, _, _) ⟨h, h3, (fun k hk => (List.mem_append.2 (.inl ((fun k hk => (by simpa using hin1 k hk : k ∈ pG1_0)) k hk)))), h10, h5, (fun k hk => (List.mem_append.2 (.inl hk))), h6, (fun k hk => (List.mem_append.2 (.inl hk)))⟩)
 refine att 5 [] rfl ?_
 refine ch h rfl ?_ ?_ <;> intro h
 ·refine wm [0, 1] [7] rfl <| amm 3 [0, 2, 1, 32, 2] [0, 1] rfl rfl ?_
  obtain ⟨x5, hx5, h⟩ := bs h
  refine WM.one 3 (by kernel_rfl) (mc rfl (fun _ v Φx D w1 hq hw => Kn.of Kf.nil (ai2 0 1 rfl rfl) hw) (k_call (js := [1]) (R := [[], ob v2, []]) Fun_142 rfl rfl (fun w1 hw ap hl => m_s_l6Any_ok N (bx hw ap hl) (⟨p0.b, x2.2.i, x2.2.h⟩ : Tl1Cur) (ph0_0.y (hw.uo ap)) h4  hx5)) rfl ?_)
  rintro v8 Φ_9 F4 ⟨ap5, fr8, v9, rfl, rfl, h11, e4, h12⟩
  replace h5 := h5.fr fr8 (ap5.o ph1_1.old)
  replace h6 := h6.fr fr8 (ap5.o ph1_2.old)
  replace h3 := h3.fr fr8 (ap5.q 1 rfl) (Dj.sub (ap5.o ph1_0.old) (fun k hk => (by simpa using hin1 k hk : k ∈ pG1_0)))
  have rc4 : RC OTPat 3 Φ_9 ([(ob v9 ++ [])] : List (List Nat)) [.string x5.1.Kind, v9, .bool x5.1.Not] ([x5.1] : List TPat) := RC.cons (c := [.string x5.1.Kind, v9, .bool x5.1.Not]) (cells := []) ⟨v9, rfl, rfl, h11⟩ rfl (RC.nil _ _ _)
  refine WM.one 4 (by kernel_rfl) (me rfl (fun _ v Φx D w1 hq hw => Kn.of Kf.nil (ai2 0 1 rfl rfl) hw) (e_lit (vs := [(0, .agg [.string x5.1.Kind, v9, .bool x5.1.Not].toArray)]) (C := #[.string x5.1.Kind, v9, .bool x5.1.Not]) OTPat.lasts Sl_24 Zr_35 rfl rfl rfl rfl (fill_made MC_35_1 (fill_cons (C' := [.string x5.1.Kind, v9, .bool x5.1.Not]) rfl rfl rfl rfl rfl (fill_nil))) rfl rc4 rfl (RC.kn OTPat.knows rc4)) rfl ?_)
  rintro v10 Φ_10 D7 ⟨fr9, h13⟩
  replace h13 : OSl OTPat 35 3 Φ_10 ((ob v9 ++ [])) v10 ([x5.1] : List TPat) := by simpa [List.append_assoc] using h13
  replace h5 := h5.f0 fr9
  replace h6 := h6.f0 fr9
  replace h3 := h3.f0 fr9
  replace h12 := fr9 _ _ (by simp) h12
  refine WM.conv (S' := St w0 Φ_10 [(b_2, .cells #[.string (⟨#[]⟩ : ByteArray), iV 0, .slice none 0 0, .slice none 0 0, .slice none 0 0] 28 (0, 0)), (b_1, .cells #[.string p1.Name, iV p1.Sal, v2, pv1_1, pv1_2] 28 (0, 0))] [((ob v9 ++ [])), ob v10, [pb0], [], ob v2, []]) (fun w1 hw => hw.merge (js := [1]) rfl (SP.eq (by simp [List.append_assoc, ob_nil]))) ?_
  obtain ⟨x6, hx6, h⟩ := bs h
  refine WM.one 5 (by kernel_rfl) (me rfl (fun _ v Φx D w1 hq hw => Kn.of Kf.nil (ai2 0 1 rfl rfl) hw) (e_appO RTPat.lasts RTPat.one Sl_24 Ei_35 rfl rfl rfl rfl rfl (js := [4]) (Rr := [((ob v9 ++ [])), ob v10, [pb0], [], []]) rfl h3 (h13.gives OTPat.gives) (fun ap => (Dj.sub (ap.o ph1_0.old) (fun k hk => (by simpa using hin1 k hk : k ∈ pG1_0)))) (fun ap => ap.q 0 rfl) hx6) rfl ?_)
  rintro v11 Φ_11 D8 ⟨⟨ap6, fr10⟩, h14⟩
  replace h5 := h5.fr fr10 (ap6.o ph1_1.old)
  replace h6 := h6.fr fr10 (ap6.o ph1_2.old)
  replace h12 := fr10 _ _ ((ap6.q 2 rfl) _ (by simp)) h12
  refine amm 1 [6, 2] [0, 1] rfl rfl ?_
  refine on1 7 (ms1 1 rfl nk Sz_24 rfl h14.one ?_)
  refine WM.nil (by kernel_rfl) <| wtL [([] ++ (((ob v9 ++ [])))), ob v11, ob v10, [pb0], []] (smg [4, 1] rfl (SP.eq (by simp [List.append_assoc]))) ?_
  exact wo [0, 2, 0] [0, 0] (K (_, _, _, _, _, _, _, _, _, _, _, _, _, _, _) ⟨h, h14, (fun k hk => ((List.mem_append.1 hk).elim (fun h => (List.mem_append.2 (.inl ((fun k hk => (by simpa using hin1 k hk : k ∈ pG1_0)) k h)))) (fun h => (List.mem_append.2 (.inr ((fun k hk => (List.mem_append.2 (.inr hk))) k h)))))), h12, h5, (fun k hk => (List.mem_append.2 (.inl hk))), h6, (fun k hk => (List.mem_append.2 (.inl hk)))⟩)
 refine att 5 [] rfl ?_
 refine ch h rfl ?_ ?_ <;> intro h
 ·refine rgn <| le' (e_lit0 RTCond.lasts Sl_25 Zr_62 rfl rfl) rfl ?_
  rintro v12 Φ_12 D9 ⟨fr11, h15⟩
  replace h5 := h5.f0 fr11
  replace h6 := h6.f0 fr11
  replace h3 := h3.f0 fr11
  replace h4 := fr11 _ _ (by simp) h4
  refine arr 2 [3, 32] rfl ?_
  obtain ⟨x7, hx7, h⟩ := bs h
  refine le' (e_appF RTCond.lasts RTCond.one RTCond.flat Sl_25 Ei_62 rfl rfl rfl rfl rfl (js := [0]) (Rr := [[], [pb0], ob v2, []]) rfl h15 h5 hx7) rfl ?_
  rintro v13 Φ_13 D10 ⟨⟨ap7, fr12⟩, h16⟩
  replace h5 := h5.fr fr12 (ap7.o ph1_1.old)
  replace h6 := h6.fr fr12 (ap7.o ph1_2.old)
  replace h3 := h3.fr fr12 (ap7.q 2 rfl) (Dj.sub (ap7.o ph1_0.old) (fun k hk => (by simpa using hin1 k hk : k ∈ pG1_0)))
  replace h4 := fr12 _ _ ((ap7.q 1 rfl) _ (by simp)) h4
  refine la rfl <| kcb [2] h rfl rfl rfl rfl (fun b ap z q => m_s_l7Any_ok N b (⟨p0.b, x2.2.i, x2.2.h⟩ : Tl1Cur) (ph0_0.y z) h4 q) ?_
  rintro x8 h v14 Φ_14 F5 ⟨ap8, fr13, rfl, rfl, e5, h17⟩
  replace h5 := h5.fr fr13 (ap8.o ph1_1.old)
  replace h6 := h6.fr fr13 (ap8.o ph1_2.old)
  replace h3 := h3.fr fr13 (ap8.q 2 rfl) (Dj.sub (ap8.o ph1_0.old) (fun k hk => (by simpa using hin1 k hk : k ∈ pG1_0)))
  replace h16 := h16.fr fr13 (ap8.q 0 rfl) dN
  have rc6 : RC RTCond 11 Φ_14 ([[]] : List (List Nat)) [iV x8.1.Op, iV x8.1.L.K, .string x8.1.L.S, iV x8.1.L.V.K, iV x8.1.L.V.N, .string x8.1.L.V.S, iV x8.1.R.K, .string x8.1.R.S, iV x8.1.R.V.K, iV x8.1.R.V.N, .string x8.1.R.V.S] ([x8.1] : List TCond) := RC.cons (c := [iV x8.1.Op, iV x8.1.L.K, .string x8.1.L.S, iV x8.1.L.V.K, iV x8.1.L.V.N, .string x8.1.L.V.S, iV x8.1.R.K, .string x8.1.R.S, iV x8.1.R.V.K, iV x8.1.R.V.N, .string x8.1.R.V.S]) (cells := []) ⟨rfl, rfl⟩ rfl (RC.nil _ _ _)
  refine le' (e_lit (vs := [(0, .agg [iV x8.1.Op, iV x8.1.L.K, .string x8.1.L.S, iV x8.1.L.V.K, iV x8.1.L.V.N, .string x8.1.L.V.S, iV x8.1.R.K, .string x8.1.R.S, iV x8.1.R.V.K, iV x8.1.R.V.N, .string x8.1.R.V.S].toArray)]) (C := #[iV x8.1.Op, iV x8.1.L.K, .string x8.1.L.S, iV x8.1.L.V.K, iV x8.1.L.V.N, .string x8.1.L.V.S, iV x8.1.R.K, .string x8.1.R.S, iV x8.1.R.V.K, iV x8.1.R.V.N, .string x8.1.R.V.S]) RTCond.lasts Sl_25 Zr_62 rfl rfl rfl rfl (fill_made MC_62_1 (fill_cons (C' := [iV x8.1.Op, iV x8.1.L.K, .string x8.1.L.S, iV x8.1.L.V.K, iV x8.1.L.V.N, .string x8.1.L.V.S, iV x8.1.R.K, .string x8.1.R.S, iV x8.1.R.V.K, iV x8.1.R.V.N, .string x8.1.R.V.S]) rfl rfl rfl rfl rfl (fill_nil))) rfl rc6 rfl (by simpa using Kw.nil)) rfl ?_
  rintro v15 Φ_15 D11 ⟨fr14, h18⟩
  replace h18 : OSl RTCond 62 11 Φ_15 [] v15 ([x8.1] : List TCond) := by simpa using h18
  replace h5 := h5.f0 fr14
  replace h6 := h6.f0 fr14
  replace h3 := h3.f0 fr14
  replace h16 := h16.f0 fr14
  replace h17 := fr14 _ _ (by simp) h17
  obtain ⟨x9, hx9, h⟩ := bs h
  refine le' (e_appF RTCond.lasts RTCond.one RTCond.flat Sl_25 Ei_62 rfl rfl rfl rfl rfl (js := [2]) (Rr := [ob v15, [pb0], [], ob v2, []]) rfl h16 h18.rsl hx9) rfl ?_
  rintro v16 Φ_16 D12 ⟨⟨ap9, fr15⟩, h19⟩
  replace h5 := h5.fr fr15 (ap9.o ph1_1.old)
  replace h6 := h6.fr fr15 (ap9.o ph1_2.old)
  replace h3 := h3.fr fr15 (ap9.q 3 rfl) (Dj.sub (ap9.o ph1_0.old) (fun k hk => (by simpa using hin1 k hk : k ∈ pG1_0)))
  replace h17 := fr15 _ _ ((ap9.q 1 rfl) _ (by simp)) h17
  refine lf Fld_28_3 rfl rfl rfl <| so1 1 Sz_25 rfl h19.one ?_
  refine en ?_
  have h20 := h19.rsl
  refine wtL [([] ++ (ob v16)), ob v15, [pb0], ob v2, []] (smg [3, 0] rfl (SP.eq (by simp [List.append_assoc]))) ?_
  exact wo [0, 1, 1] [0, 0] (K (_, _, _, _, _, _, _, _, _, _, _, _, _, _, _) ⟨h, h3, (fun k hk => (List.mem_append.2 (.inl ((fun k hk => (by simpa using hin1 k hk : k ∈ pG1_0)) k hk)))), h17, h20, (fun k hk => (List.mem_append.2 (.inr ((fun k hk => (List.mem_append.2 (.inr hk))) k (apnil k hk))))), h6, (fun k hk => (List.mem_append.2 (.inl hk)))⟩)
 refine att 5 [] rfl ?_
 refine ch h rfl ?_ ?_ <;> intro h
 ·refine rgn ?_
  have rc7 : RC OTAct 5 Φ_3 ([] : List (List Nat)) [] ([] : List TAct) := RC.nil _ _ _
  refine le' (e_lit (vs := []) (C := #[]) OTAct.lasts Sl_26 Zr_66 rfl rfl rfl rfl (fill_made MC_66_0 (fill_nil)) rfl rc7 rfl (by simpa using Kw.nil)) rfl ?_
  rintro v17 Φ_17 D13 ⟨fr16, h21⟩
  replace h21 : OSl OTAct 66 5 Φ_17 [] v17 ([] : List TAct) := by simpa [List.append_assoc] using h21
  replace h5 := h5.f0 fr16
  replace h6 := h6.f0 fr16
  replace h3 := h3.f0 fr16
  replace h4 := fr16 _ _ (by simp) h4
  refine WL.conv (S' := St w0 Φ_17 [(b_2, .cells #[.string (⟨#[]⟩ : ByteArray), iV 0, .slice none 0 0, .slice none 0 0, .slice none 0 0] 28 (0, 0)), (b_1, .cells #[.string p1.Name, iV p1.Sal, v2, pv1_1, pv1_2] 28 (0, 0))] [[], ob v17, [], [pb0], ob v2, []]) (fun w1 hw => hw.addNil) <| arr 2 [4, 32] rfl ?_
  obtain ⟨x10, hx10, h⟩ := bs h
  replace h21 := h21.gives OTAct.gives
  refine le' (e_appS RTAct.lasts RTAct.knows RTAct.one Sl_26 Ei_66 rfl rfl rfl rfl rfl (js := [1]) (Rr := [[], [], [pb0], ob v2, []]) rfl h21 h6 (fun ap => dN) (fun ap => (ap.o ph1_2.old)) hx10) rfl ?_
  rintro v18 Φ_18 D14 ⟨⟨ap10, fr17⟩, hin3, h22⟩
  replace h5 := h5.fr fr17 (ap10.o ph1_1.old)
  replace h6 := h6.fr fr17 (ap10.o ph1_2.old)
  replace h3 := h3.fr fr17 (ap10.q 3 rfl) (Dj.sub (ap10.o ph1_0.old) (fun k hk => (by simpa using hin1 k hk : k ∈ pG1_0)))
  replace h4 := fr17 _ _ ((ap10.q 2 rfl) _ (by simp)) h4
  refine la rfl <| kcb [3] h rfl rfl rfl rfl (fun b ap z q => m_s_l8Any_ok N b (⟨p0.b, x2.2.i, x2.2.h⟩ : Tl1Cur) (ph0_0.y z) h4 q) ?_
  rintro x11 h v19 Φ_19 F7 ⟨ap11, fr18, v20, rfl, rfl, h23, e7, h24⟩
  replace h5 := h5.fr fr18 (ap11.o ph1_1.old)
  replace h6 := h6.fr fr18 (ap11.o ph1_2.old)
  replace h3 := h3.fr fr18 (ap11.q 3 rfl) (Dj.sub (ap11.o ph1_0.old) (fun k hk => (by simpa using hin1 k hk : k ∈ pG1_0)))
  replace h22 := h22.fr fr18 (ap11.q 0 rfl) (Dj.sub (ap11.o ph1_2.old) (fun k hk => (by simpa using hin3 k hk : k ∈ pG1_2)))
  have rc8 : RC OTAct 5 Φ_19 ([(ob v20 ++ [])] : List (List Nat)) [iV x11.1.Kind, .string x11.1.Name, v20, iV x11.1.N, .string x11.1.Undo] ([x11.1] : List TAct) := RC.cons (c := [iV x11.1.Kind, .string x11.1.Name, v20, iV x11.1.N, .string x11.1.Undo]) (cells := []) ⟨v20, rfl, rfl, h23⟩ rfl (RC.nil _ _ _)
  refine le' (e_lit (vs := [(0, .agg [iV x11.1.Kind, .string x11.1.Name, v20, iV x11.1.N, .string x11.1.Undo].toArray)]) (C := #[iV x11.1.Kind, .string x11.1.Name, v20, iV x11.1.N, .string x11.1.Undo]) OTAct.lasts Sl_26 Zr_66 rfl rfl rfl rfl (fill_made MC_66_1 (fill_cons (C' := [iV x11.1.Kind, .string x11.1.Name, v20, iV x11.1.N, .string x11.1.Undo]) rfl rfl rfl rfl rfl (fill_nil))) rfl rc8 rfl (RC.kn OTAct.knows rc8)) rfl ?_
  rintro v21 Φ_20 D16 ⟨fr19, h25⟩
  replace h25 : OSl OTAct 66 5 Φ_20 ((ob v20 ++ [])) v21 ([x11.1] : List TAct) := by simpa [List.append_assoc] using h25
  replace h5 := h5.f0 fr19
  replace h6 := h6.f0 fr19
  replace h3 := h3.f0 fr19
  replace h22 := h22.f0 fr19
  replace h24 := fr19 _ _ (by simp) h24
  refine wlL [((ob v20 ++ [])), ob v21, [pb0], ob v18, [], [], ob v2, []] (smg [1] rfl (SP.eq (by simp [List.append_assoc, ob_nil]))) ?_
  obtain ⟨x12, hx12, h⟩ := bs h
  refine le' (e_appO RTAct.lasts RTAct.one Sl_26 Ei_66 rfl rfl rfl rfl rfl (js := [3]) (Rr := [((ob v20 ++ [])), ob v21, [pb0], [], [], ob v2, []]) rfl h22 (h25.gives OTAct.gives) (fun ap => (Dj.sub (ap.o ph1_2.old) (fun k hk => (by simpa using hin3 k hk : k ∈ pG1_2)))) (fun ap => ap.q 0 rfl) hx12) rfl ?_
  rintro v22 Φ_21 D17 ⟨⟨ap12, fr20⟩, h26⟩
  replace h5 := h5.fr fr20 (ap12.o ph1_1.old)
  replace h6 := h6.fr fr20 (ap12.o ph1_2.old)
  replace h3 := h3.fr fr20 (ap12.q 5 rfl) (Dj.sub (ap12.o ph1_0.old) (fun k hk => (by simpa using hin1 k hk : k ∈ pG1_0)))
  replace h24 := fr20 _ _ ((ap12.q 2 rfl) _ (by simp)) h24
  refine lf Fld_28_4 rfl rfl rfl <| so1 1 Sz_26 rfl h26.one ?_
  refine en ?_
  have h27 := h26.rsl
  refine wtL [([] ++ (ob v22 ++ (((ob v20 ++ []))))), ob v21, [pb0], [], ob v2, []] (smg [5, 0, 0] rfl (SP.eq (by simp [List.append_assoc]))) ?_
  exact wo [0, 1, 2] [0, 0] (K (_, _, _, _, _, _, _, _, _, _, _, _, _, _, _) ⟨h, h3, (fun k hk => (List.mem_append.2 (.inl ((fun k hk => (by simpa using hin1 k hk : k ∈ pG1_0)) k hk)))), h24, h5, (fun k hk => (List.mem_append.2 (.inl hk))), h27, (fun k hk => ((List.mem_append.1 hk).elim (fun h => (List.mem_append.2 (.inr ((fun k hk => (List.mem_append.2 (.inr (List.mem_append.2 (.inl hk))))) k h)))) (fun h => ((List.mem_append.1 h).elim (fun h => (List.mem_append.2 (.inl ((fun k hk => (by simpa using hin3 k hk : k ∈ pG1_2)) k h)))) (fun h => (List.mem_append.2 (.inr ((fun k hk => (List.mem_append.2 (.inr (List.mem_append.2 (.inr hk))))) k h))))))))⟩)
 refine att 5 [] rfl ?_
 refine ch h rfl ?_ ?_ <;> intro h
 ·refine atr 3 [2, 32] rfl ?_
  obtain ⟨x13, hx13, h⟩ := bs h
  obtain ⟨cs1, F9, D18, h28, r1, kf1, sp1⟩ := h3.focus hx13
  obtain ⟨v23, G1, rfl, hq1, h29⟩ := r1
  obtain rfl := hq1.symm
  refine lih h28 hx13 rfl <| lf Fld_35_2 rfl rfl rfl <| lu (us [2] [[], [pb0], []] 2 RTPat.lasts Sz_4 rfl rfl rfl rfl h28 rfl (fun ap => (Dj.sub (Dj.sub (ap.o ph1_0.old) (fun k hk => (by simpa using hin1 k hk : k ∈ pG1_0))) (fun k hk => sp1.mem (List.mem_append.2 (.inr hk)))))) rfl ?_
  rintro Φ_22 D19 ⟨⟨ap13, fr21⟩, h30⟩
  replace h29 := h29.fr fr21 (Dj.sub (ap13.o ph1_0.old) (fun k h => (fun k hk => (by simpa using hin1 k hk : k ∈ pG1_0)) k (sp1.mem (List.mem_append.2 (.inl h)))))
  replace h5 := h5.fr fr21 (ap13.o ph1_1.old)
  replace h6 := h6.fr fr21 (ap13.o ph1_2.old)
  replace h4 := fr21 _ _ ((ap13.q 1 rfl) _ (by simp)) h4
  refine en ?_
  have r2 : RTPat Φ_22 _ [.string x13.Kind, v23, .bool true] (⟨x13.Kind, x13.Args, true⟩ : TPat) := ⟨v23, G1, rfl, rfl, h29⟩
  obtain ⟨D20, h31, sp2⟩ := h30.unfocus r2 (RTPat.knows _ _ _ _ r2)
  exact wo [1, 1, 0] [0, 0] (K (_, _, _, _, _, _, _, _, _, _, _, _, _, _, _) ⟨h, h31, (fun k hk => ((List.mem_append.1 ((fun k hk => (by simpa [List.append_assoc] using sp2.mem hk : k ∈ (G1 ++ D18))) k hk)).elim (fun h => (List.mem_append.2 (.inl ((fun k h => (fun k hk => (by simpa using hin1 k hk : k ∈ pG1_0)) k (sp1.mem (List.mem_append.2 (.inl h)))) k h)))) (fun h => (List.mem_append.2 (.inl ((fun k hk => (fun k hk => (by simpa using hin1 k hk : k ∈ pG1_0)) k (sp1.mem (List.mem_append.2 (.inr hk)))) k h)))))), h4, h5, (fun k hk => (List.mem_append.2 (.inl hk))), h6, (fun k hk => (List.mem_append.2 (.inl hk)))⟩)
 refine att 5 [] rfl ?_
 refine ch h rfl ?_ ?_ <;> intro h
 ·refine atr 3 [4, 32] rfl ?_
  obtain ⟨x14, hx14, h⟩ := bs h
  refine lq (q_slH Sl_26 rfl rfl h6 hx14) rfl ?_
  obtain ⟨F10, h32, hs1⟩ := h6.sub hx14
  refine lf Fld_28_4 rfl rfl rfl <| so1 1 Sz_26 rfl h32.one ?_
  refine en ?_
  exact wo [0, 0, 0] [0, 0] (K (_, _, _, _, _, _, _, _, _, _, _, _, _, _, _) ⟨h, h3, (fun k hk => (List.mem_append.2 (.inl ((fun k hk => (by simpa using hin1 k hk : k ∈ pG1_0)) k hk)))), h4, h5, (fun k hk => (List.mem_append.2 (.inl hk))), h32, (fun k hk => (List.mem_append.2 (.inl (hs1 k hk))))⟩)
 refine WT.skip ?_
 exact wo [0, 0, 0] [0, 0] (K (_, _, _, _, _, _, _, _, _, _, _, _, _, _, _) ⟨h, h3, (fun k hk => (List.mem_append.2 (.inl ((fun k hk => (by simpa using hin1 k hk : k ∈ pG1_0)) k hk)))), h4, h5, (fun k hk => (List.mem_append.2 (.inl hk))), h6, (fun k hk => (List.mem_append.2 (.inl hk)))⟩)
theorem m_s_l9Any_ok (w0 : Base Ψ Φ [[pb0]].flatten) (p0 : Tl1Cur) (ph0_0 : RSl (RI .u8) 1 Ψ pG0_0 pv0_0 p0.b) (pp0 : Φ pb0 = some (.cells #[pv0_0, iV p0.i, iV p0.h] 107 (0, 0))) {r : TRule × Tl1Cur} (h : m_s_l9Any N p0 = some r) :
  Calls prog 29 [pQ pb0].toArray w0.w (PostG Φ w0.w [[pb0]].flatten (fun Φ' Fs v => ∃ (sr_0_0 : Value) (Dr_0_0 : List Nat) (sr_0_1 : Value) (Gr_0_1 : List Nat) (sr_0_2 : Value) (Gr_0_2 : List Nat) (X : List Nat), v = .agg [.string r.1.Name, iV r.1.Sal, sr_0_0, sr_0_1, sr_0_2].toArray ∧ Fs = [ob sr_0_0, [pb0], X] ∧ OSl RTPat 35 3 Φ' Dr_0_0 sr_0_0 r.1.Pats ∧ (∀ k ∈ Dr_0_0, k ∈ X) ∧ RSl RTCond 11 Φ' Gr_0_1 sr_0_1 r.1.Conds ∧ (∀ k ∈ Gr_0_1, k ∈ X) ∧ RSl RTAct 5 Φ' Gr_0_2 sr_0_2 r.1.Acts ∧ (∀ k ∈ Gr_0_2, k ∈ X) ∧ r.2.b = p0.b ∧ Φ' pb0 = some (.cells #[pv0_0, iV r.2.i, iV r.2.h] 107 (0, 0)))) := by
 refine eL func29 rfl ntmps29 rfl (L := [[pb0]]) w0 (fun hF => ?_)
 unfold m_s_l9Any at h
 refine sr <| lnz Zr_28 rfl fun b_1 => arr 5 [] rfl ?_
 have rc1 : RC RS 1 Φ ([[], [], []] : List (List Nat)) [.string (⟨#[114, 49]⟩ : ByteArray), .string (⟨#[114, 50]⟩ : ByteArray), .string (⟨#[115, 104, 105, 112]⟩ : ByteArray)] ([(⟨#[114, 49]⟩ : ByteArray), (⟨#[114, 50]⟩ : ByteArray), (⟨#[115, 104, 105, 112]⟩ : ByteArray)] : List ByteArray) := RC.cons (c := [.string (⟨#[114, 49]⟩ : ByteArray)]) (cells := [.string (⟨#[114, 50]⟩ : ByteArray), .string (⟨#[115, 104, 105, 112]⟩ : ByteArray)]) ⟨rfl, rfl⟩ rfl (RC.cons (c := [.string (⟨#[114, 50]⟩ : ByteArray)]) (cells := [.string (⟨#[115, 104, 105, 112]⟩ : ByteArray)]) ⟨rfl, rfl⟩ rfl (RC.cons (c := [.string (⟨#[115, 104, 105, 112]⟩ : ByteArray)]) (cells := []) ⟨rfl, rfl⟩ rfl (RC.nil _ _ _)))
 refine le' (e_lit (vs := [(0, .string (⟨#[114, 49]⟩ : ByteArray)), (1, .string (⟨#[114, 50]⟩ : ByteArray)), (2, .string (⟨#[115, 104, 105, 112]⟩ : ByteArray))]) (C := #[.string (⟨#[114, 49]⟩ : ByteArray), .string (⟨#[114, 50]⟩ : ByteArray), .string (⟨#[115, 104, 105, 112]⟩ : ByteArray)]) RS.lasts Sl_68 Zr_9 rfl rfl rfl rfl (fill_made MC_9_3 (fill_cons (C' := [.string (⟨#[114, 49]⟩ : ByteArray), .string ⟨#[]⟩, .string ⟨#[]⟩]) rfl rfl rfl rfl rfl (fill_cons (C' := [.string (⟨#[114, 49]⟩ : ByteArray), .string (⟨#[114, 50]⟩ : ByteArray), .string ⟨#[]⟩]) rfl rfl rfl rfl rfl (fill_cons (C' := [.string (⟨#[114, 49]⟩ : ByteArray), .string (⟨#[114, 50]⟩ : ByteArray), .string (⟨#[115, 104, 105, 112]⟩ : ByteArray)]) rfl rfl rfl rfl rfl (fill_nil))))) rfl rc1 rfl (by simpa using Kw.nil)) rfl ?_
 rintro v1 Φ_1 D1 ⟨fr1, h1⟩
 replace h1 : OSl RS 9 1 Φ_1 [] v1 ([(⟨#[114, 49]⟩ : ByteArray), (⟨#[114, 50]⟩ : ByteArray), (⟨#[115, 104, 105, 112]⟩ : ByteArray)] : List ByteArray) := by simpa using h1
 replace pp0 := fr1 _ _ (by simp) pp0
 refine kcb [1] h rfl rfl rfl rfl (fun b ap z q => m_s_l1Str_ok N b p0 ([(⟨#[114, 49]⟩ : ByteArray), (⟨#[114, 50]⟩ : ByteArray), (⟨#[115, 104, 105, 112]⟩ : ByteArray)] : List ByteArray) (ph0_0.y z) pp0 (h1.rsl.x (Dj.app (ap.q 0 rfl) dN)) q) ?_
 rintro x1 h v2 Φ_2 F1 ⟨ap1, fr2, rfl, rfl, e1, h2⟩
 refine kcb [0] h rfl rfl rfl rfl (fun b ap z q => m_s_l9Draw_ok N b (⟨p0.b, x1.2.i, x1.2.h⟩ : Tl1Cur) x1.1 (ph0_0.y z) h2 q) ?_
 rintro x2 h v3 Φ_3 F2 ⟨ap2, fr3, v4, D2, v5, v6, D3, rfl, rfl, h3, h4, h5, e2, h6⟩
 refine lnz Zr_28 rfl fun b_2 => soN 0 Sz_28 rfl ⟨rfl, rfl, h3.one, h4.one, h5.one, trivial⟩ rfl ?_
 refine arr 5 [] rfl <| kcb [5] h rfl rfl rfl rfl (fun b ap z q => m_s_l1Once_ok N b (⟨p0.b, x2.2.i, x2.2.h⟩ : Tl1Cur) 3 (ph0_0.y z) h6 q) ?_
 rintro x3 h v7 Φ_4 F3 ⟨ap3, fr4, rfl, rfl, e3, h7⟩
 replace h3 := h3.fr fr4 (ap3.q 0 rfl) (ap3.q 1 rfl)
 replace h4 := h4.fr fr4 (ap3.q 2 rfl) dN
 replace h5 := h5.fr fr4 (ap3.q 3 rfl) (ap3.q 4 rfl)
 refine en <| wt0 ?_
 have h8 := h4.rsl
 have h9 := (h5.rslG OTAct.gives)
 replace h3 := h3.gives OTPat.gives
 refine cut (σ := Hp × List Nat × (List TPat) × Value × List Nat × Int × Int × ByteArray × Int × (List TCond) × Value × List Nat × (List TAct) × Value × List Nat) (fun s => [(2, pQ b_1), (3, pQ b_2)]) (fun s => St w0 s.1 [(b_2, .cells #[.string s.2.2.2.2.2.2.2.1, iV s.2.2.2.2.2.2.2.2.1, s.2.2.2.1, s.2.2.2.2.2.2.2.2.2.2.1, s.2.2.2.2.2.2.2.2.2.2.2.2.2.1] 28 (0, 0)), (b_1, .cells #[.string (⟨#[]⟩ : ByteArray), iV 0, .slice none 0 0, .slice none 0 0, .slice none 0 0] 28 (0, 0))] [s.2.1, [pb0], ob s.2.2.2.1, D2, ob v5, ob v6, D3]) (fun s => m_s_l9Any_j1 N p0 s.2.2.1 s.2.2.2.2.2.1 s.2.2.2.2.2.2.1 s.2.2.2.2.2.2.2.1 s.2.2.2.2.2.2.2.2.1 s.2.2.2.2.2.2.2.2.2.1 s.2.2.2.2.2.2.2.2.2.2.2.2.1 = some r ∧ (OSl RTPat 35 3 s.1 s.2.2.2.2.1 s.2.2.2.1 s.2.2.1) ∧ (∀ k ∈ s.2.2.2.2.1, k ∈ (D2 ++ s.2.1)) ∧ (s.1 pb0 = some (.cells #[pv0_0, iV s.2.2.2.2.2.1, iV s.2.2.2.2.2.2.1] 107 (0, 0))) ∧ (RSl RTCond 11 s.1 s.2.2.2.2.2.2.2.2.2.2.2.1 s.2.2.2.2.2.2.2.2.2.2.1 s.2.2.2.2.2.2.2.2.2.1) ∧ (∀ k ∈ s.2.2.2.2.2.2.2.2.2.2.2.1, k ∈ (ob v5 ++ s.2.1)) ∧ (RSl RTAct 5 s.1 s.2.2.2.2.2.2.2.2.2.2.2.2.2.2 s.2.2.2.2.2.2.2.2.2.2.2.2.2.1 s.2.2.2.2.2.2.2.2.2.2.2.2.1) ∧ (∀ k ∈ s.2.2.2.2.2.2.2.2.2.2.2.2.2.2, k ∈ (ob v6 ++ (D3 ++ s.2.1)))) (fun s hm => ?_) (fun K => ?_)
 ·clear h
  obtain ⟨Φ_5, X1, s1, u1, D4, s2, s3, s4, s5, s6, u2, H1, s7, u3, H2⟩ := s
  obtain ⟨h, k1, i1, k2, k3, i2, k4, i3⟩ := hm
  dsimp only at h k1 i1 k2 k3 i2 k4 i3 ⊢
  unfold m_s_l9Any_j1 at h
  refine atr 3 [5] rfl <| soN 1 Sz_28 rfl ⟨rfl, rfl, k1.one, k3.one, k4.one, trivial⟩ rfl ?_
  refine en ?_
  refine WT.ret hF (resOk.one (rv_cell Tn_28 rfl (fun w1 hw => hw.rgO (i := 1) rfl 0 5 [.string s4, iV s5, u1, u2, u3] rfl) rfl)) (fun w1 hw => ?_)
  cases h
  replace hw := hw.merge (js := [3, 0, 2, 2, 2]) (F := [D2, X1, ob v5, ob v6, D3].flatten) rfl (SP.eq (by simp))
  refine postG_of_St (js := [2, 1, 0]) hw rfl ⟨u1, D4, u2, H1, u3, H2, [D2, X1, ob v5, ob v6, D3].flatten, rfl, rfl, k1, (fun k hk => ((List.mem_append.1 (i1 k hk)).elim (fun h => (List.mem_flatten.2 ⟨D2, by simp, h⟩)) (fun h => (List.mem_flatten.2 ⟨X1, by simp, h⟩)))), k3, (fun k hk => ((List.mem_append.1 (i2 k hk)).elim (fun h => (List.mem_flatten.2 ⟨ob v5, by simp, h⟩)) (fun h => (List.mem_flatten.2 ⟨X1, by simp, h⟩)))), k4, (fun k hk => ((List.mem_append.1 (i3 k hk)).elim (fun h => (List.mem_flatten.2 ⟨ob v6, by simp, h⟩)) (fun h => ((List.mem_append.1 h).elim (fun h => (List.mem_flatten.2 ⟨D3, by simp, h⟩)) (fun h => (List.mem_flatten.2 ⟨X1, by simp, h⟩)))))), rfl, k2⟩
 refine ch h rfl ?_ ?_ <;> intro h
 ·refine atr 3 [5] rfl <| kcb [1] h rfl rfl rfl rfl (fun b ap z q => m_s_l9Bend_ok N b (⟨p0.b, x3.2.i, x3.2.h⟩ : Tl1Cur) x2.1 (ph0_0.y z) h7 (h3.rsl.x (Dj.app (ap.q 1 rfl) (ap.q 2 rfl))) (h8.x (Dj.sub (ap.q 3 rfl) apnil)) (h9.x (Dj.app (ap.q 4 rfl) (ap.q 5 rfl))) q) ?_
  rintro x4 h v8 Φ_6 F6 ⟨ap4, fr5, v9, D5, v10, G1, v11, G2, X2, rfl, rfl, h10, i4, h11, i5, h12, i6, e6, h13⟩
  replace h8 := h8.fr fr5 (Dj.sub (ap4.q 3 rfl) apnil)
  replace h9 := h9.fr fr5 (Dj.app (ap4.q 4 rfl) (ap4.q 5 rfl))
  replace h3 := h3.fr fr5 (ap4.q 1 rfl) (ap4.q 2 rfl)
  refine soN 0 Sz_28 rfl ⟨rfl, rfl, h10.one, h11.one, h12.one, trivial⟩ rfl ?_
  refine en <| wtL [([] ++ (X2 ++ (ob v4))), ob v9, [pb0], D2, ob v5, ob v6, D3, ob v1] (smg [3, 2, 2] rfl (SP.eq (by simp [List.append_assoc]))) ?_
  exact wo [0, 1, 0, 0, 0, 0, 0] [0, 0] (K (_, _, _, _, _, _, _, _, _, _, _, _, _, _, _) ⟨h, h10, (fun k hk => ((List.mem_append.1 (i4 k hk)).elim (fun h => (List.mem_append.2 (.inr ((fun k hk => (List.mem_append.2 (.inr (List.mem_append.2 (.inl hk))))) k h)))) (fun h => ((List.mem_append.1 h).elim (fun h => (List.mem_append.2 (.inr ((fun k hk => (List.mem_append.2 (.inr (List.mem_append.2 (.inr hk))))) k h)))) (fun h => (List.mem_append.2 (.inl h))))))), h13, h11, (fun k hk => ((List.mem_append.1 (i5 k hk)).elim (fun h => (List.mem_append.2 (.inr ((fun k hk => (List.mem_append.2 (.inr (List.mem_append.2 (.inl hk))))) k h)))) (fun h => (List.mem_append.2 (.inl (apnil k h)))))), h12, (fun k hk => ((List.mem_append.1 (i6 k hk)).elim (fun h => (List.mem_append.2 (.inr (List.mem_append.2 (.inr ((fun k hk => (List.mem_append.2 (.inr (List.mem_append.2 (.inl hk))))) k h)))))) (fun h => ((List.mem_append.1 h).elim (fun h => (List.mem_append.2 (.inl h))) (fun h => (List.mem_append.2 (.inr (List.mem_append.2 (.inl h)))))))))⟩)
 refine WT.skip ?_
 exact wo [0, 0, 0, 0, 0, 0, 0] [0, 0] (K (_, _, _, _, _, _, _, _, _, _, _, _, _, _, _) ⟨h, h3, (fun k hk => (List.mem_append.2 (.inl hk))), h7, h8, (fun k hk => (List.mem_append.2 (.inl (apnil k hk)))), h9, (fun k hk => ((List.mem_append.1 hk).elim (fun h => (List.mem_append.2 (.inl h))) (fun h => (List.mem_append.2 (.inr (List.mem_append.2 (.inl h)))))))⟩)
theorem m_s_DrawRuleOk_ok (w0 : Base Ψ Φ []) (p0 : (List Int)) (ph0 : RSl (RI .u8) 1 Ψ pG0 pv0 p0) {r : TRule} (h : m_s_DrawRuleOk N p0 = some r) :
  Calls prog 8 [pv0].toArray w0.w (PostG Φ w0.w [] (fun Φ' Fs v => ∃ (sr_0_0 : Value) (Dr_0_0 : List Nat) (sr_0_1 : Value) (Gr_0_1 : List Nat) (sr_0_2 : Value) (Gr_0_2 : List Nat) (X : List Nat), v = .agg [.string r.Name, iV r.Sal, sr_0_0, sr_0_1, sr_0_2].toArray ∧ Fs = [ob sr_0_0, X] ∧ OSl RTPat 35 3 Φ' Dr_0_0 sr_0_0 r.Pats ∧ (∀ k ∈ Dr_0_0, k ∈ X) ∧ RSl RTCond 11 Φ' Gr_0_1 sr_0_1 r.Conds ∧ (∀ k ∈ Gr_0_1, k ∈ X) ∧ RSl RTAct 5 Φ' Gr_0_2 sr_0_2 r.Acts ∧ (∀ k ∈ Gr_0_2, k ∈ X))) := by
 refine eN func8 rfl ntmps8 rfl w0 fun hF => ?_
 unfold m_s_DrawRuleOk at h
 refine sr <| lnz Zr_28 rfl fun b_1 => arr 4 [] rfl <| kab h rfl rfl rfl (fun b z q => m_s_l1New_ok N b p0 (ph0.y z) q) ?_
 rintro x1 h v1 Φ_1 F1 ⟨ap1, fr1, b_2, v2, G1, rfl, rfl, h1, i1, h2⟩
 refine arr 5 [] rfl <| kcb [0] h rfl rfl rfl rfl (fun b ap z q => m_s_l9Any_ok N b x1 (h1.x (Dj.sub (ap.o ph0.old) i1)) h2 q) ?_
 rintro x2 h v3 Φ_2 F2 ⟨ap2, fr2, v4, D1, v5, G2, v6, G3, X1, rfl, rfl, h3, i2, h4, i3, h5, i4, e1, h6⟩
 refine soN 0 Sz_28 rfl ⟨rfl, rfl, h3.one, h4.one, h5.one, trivial⟩ rfl ?_
 refine en ?_
 refine WT.ret hF (resOk.one (rv_cell Tn_28 rfl (fun w1 hw => hw.rgO (i := 0) rfl 0 5 [.string x2.1.Name, iV x2.1.Sal, v4, v5, v6] rfl) rfl)) (fun w1 hw => ?_)
 cases h
 replace hw := hw.merge (js := [2]) (F := [X1].flatten) rfl (SP.eq (by simp))
 refine postG_of_St (js := [1, 0]) hw rfl ⟨v4, D1, v5, G2, v6, G3, [X1].flatten, rfl, rfl, h3, (fun k hk => (List.mem_flatten.2 ⟨X1, by simp, (i2 k hk)⟩)), h4, (fun k hk => (List.mem_flatten.2 ⟨X1, by simp, (i3 k hk)⟩)), h5, (fun k hk => (List.mem_flatten.2 ⟨X1, by simp, (i4 k hk)⟩))⟩
theorem m_i_PosCount_ok (w0 : Base Ψ Φ []) (p0 : TRule) (ph0_0 : RSl RTPat 3 Ψ pG0_0 pv0_0 p0.Pats) (ph0_1 : RSl RTCond 11 Ψ pG0_1 pv0_1 p0.Conds) (ph0_2 : RSl RTAct 5 Ψ pG0_2 pv0_2 p0.Acts) {r : Int} (h : m_i_PosCount N p0 = some r) :
  CB w0 prog 12 [.agg [.string p0.Name, iV p0.Sal, pv0_0, pv0_1, pv0_2].toArray] (iV r) := by
 refine eN func12 rfl ntmps12 rfl w0 fun hF => ?_
 unfold m_i_PosCount at h
 refine sr <| lbx rfl fun b_1 => arr 11 [2, 0] rfl <| lnr ph0_0 rfl <| art 3 [] rfl ?_
 refine lin (σ := Int × Int) (fun s => [(3, iV s.1), (7, pv0_0), (8, iV (p0.Pats.length : Int)), (9, iV s.2)]) (fun s => St w0 Φ [] []) (fun m s => m_i_PosCount_l1 N p0 m s.1 s.2 = some r) (0, 0) N h (sx [] []) (fun n1 ih1 s hm => ?_)
 obtain ⟨s1, s2⟩ := s
 have h : m_i_PosCount_l1 N p0 (n1 + 1) s1 s2 = some r := hm
 show WT _ _ [(3, iV s1), (7, pv0_0), (8, iV (p0.Pats.length : Int)), (9, iV s2)] (St w0 Φ [] [])
 unfold m_i_PosCount_l1 at h
 refine att 5 [] rfl ?_
 refine ch h rfl ?_ ?_ <;> intro h
 ·refine atr 5 [] rfl ?_
  obtain ⟨x1, hx1, h⟩ := bs h
  obtain ⟨cs1, F1, -, g1, hb1, hs1, r1⟩ := ph0_0.el (idx_some hx1).2.2
  obtain ⟨v1, G1, rfl, hq1, h1⟩ := r1
  obtain rfl := hq1.symm
  refine lia ph0_0 hx1 rfl <| lhx 0 3 g1 rfl <| lnz Zr_35 rfl fun b_2 => soN 0 Sz_35 rfl ⟨rfl, h1.one, rfl, trivial⟩ rfl ?_
  refine art 7 [2, 0] rfl ?_
  refine ch h rfl ?_ ?_ <;> intro h
  ·refine att 10 [] rfl ?_
   exact lb [] [] (ih1 (_, _) h)
  refine att 6 [] rfl ?_
  exact lb [] [] (ih1 (_, _) h)
 refine att 6 [] rfl ?_
 exact rt hF h
theorem m_i_isSmall_ok  (w0 : Base Ψ Φ []) (p0 : Int)  {r : Bool} (h : m_i_isSmall N p0 = some r) :
  CB w0 prog 76 [.int .u8 p0] (.bool r) := by
 refine eN func76 rfl ntmps76 rfl w0 fun hF => ?_
 unfold m_i_isSmall at h
 refine atr 9 [] rfl ?_
 obtain ⟨b1, hb_1, h⟩ := bs h
 refine WL.cutN 3 [(8, .bool b1), (2, .bool false)] ?_ (fun K => ?_)
 rotate_left
 ·refine sp 5 hb_1 rfl (fun hb_1 => ?_) fun hb_1 => ?_
  ·refine arr 3 [] rfl ?_
   cases hb_1
   exact ku K
  ·refine arr 3 [] rfl ?_
   cases hb_1
   exact ku K
 refine la rfl <| en ?_
 exact rt hF h
theorem m_i_isDigit_ok  (w0 : Base Ψ Φ []) (p0 : Int)  {r : Bool} (h : m_i_isDigit N p0 = some r) :
  CB w0 prog 103 [.int .u8 p0] (.bool r) := by
 refine eN func103 rfl ntmps103 rfl w0 fun hF => ?_
 unfold m_i_isDigit at h
 refine atr 9 [] rfl ?_
 obtain ⟨b1, hb_1, h⟩ := bs h
 refine WL.cutN 3 [(8, .bool b1), (2, .bool false)] ?_ (fun K => ?_)
 rotate_left
 ·refine sp 5 hb_1 rfl (fun hb_1 => ?_) fun hb_1 => ?_
  ·refine arr 3 [] rfl ?_
   cases hb_1
   exact ku K
  ·refine arr 3 [] rfl ?_
   cases hb_1
   exact ku K
 refine la rfl <| en ?_
 exact rt hF h
theorem m_i_isWordByte_ok  (w0 : Base Ψ Φ []) (p0 : Int)  {r : Bool} (h : m_i_isWordByte N p0 = some r) :
  CB w0 prog 106 [.int .u8 p0] (.bool r) := by
 refine eN func106 rfl ntmps106 rfl w0 fun hF => ?_
 unfold m_i_isWordByte at h
 refine atr 7 [] rfl <| qc h (m_i_isSmall_ok N · p0 ·) rfl rfl rfl fun x1 h => la rfl ?_
 obtain ⟨b1, hb_1, h⟩ := bs h
 refine WL.cutN 3 [(8, .bool b1), (0, .int .u8 p0), (2, .bool false)] ?_ (fun K => ?_)
 rotate_left
 ·refine sp 5 hb_1 rfl (fun hb_1 => ?_) fun hb_1 => ?_
  ·refine arr 3 [] rfl ?_
   cases hb_1
   exact ku K
  ·refine ly rfl rfl <| la rfl <| ly rfl rfl <| qc hb_1 (m_i_isDigit_ok N · p0 ·) rfl rfl rfl fun x2 hb_1 => la rfl ?_
   cases hb_1
   exact ku K
 refine la rfl ?_
 obtain ⟨b2, hb_2, h⟩ := bs h
 refine WL.cutN 3 [(12, .bool b2), (2, .bool false)] ?_ (fun K => ?_)
 rotate_left
 ·refine sp 9 hb_2 rfl (fun hb_2 => ?_) fun hb_2 => ?_
  ·refine arr 3 [] rfl ?_
   cases hb_2
   exact ku K
  ·refine arr 3 [] rfl ?_
   cases hb_2
   exact ku K
 refine la rfl <| en ?_
 exact rt hF h
theorem m_i_isWord_ok  (w0 : Base Ψ Φ []) (p0 : ByteArray) (p1 : Int)  {r : Bool} (h : m_i_isWord N p0 p1 = some r) :
  CB w0 prog 77 [.string p0, iV p1] (.bool r) := by
 refine eN func77 rfl ntmps77 rfl w0 fun hF => ?_
 unfold m_i_isWord at h
 refine atr 8 [] rfl <| lq (q_lenS Str_9 rfl rfl) rfl <| art 3 [] rfl ?_
 refine ch h rfl ?_ ?_ <;> intro h
 ·refine att 4 [] rfl ?_
  exact rt hF h
 refine att 7 [] rfl ?_
 refine lin (σ := Int) (fun s => [(0, .string p0), (5, iV s)]) (fun s => St w0 Φ [] []) (fun m s => m_i_isWord_l1 N p0 m s = some r) (0) N h (sx [] []) (fun n1 ih1 s hm => ?_)
 revert hm; revert s; intro s1 hm
 have h : m_i_isWord_l1 N p0 (n1 + 1) s1 = some r := hm
 show WT _ _ [(0, .string p0), (5, iV s1)] (St w0 Φ [] [])
 unfold m_i_isWord_l1 at h
 refine atr 5 [] rfl <| lq (q_lenS Str_9 rfl rfl) rfl <| la rfl <| en ?_
 refine ch h rfl ?_ ?_ <;> intro h
 ·refine atr 7 [] rfl ?_
  obtain ⟨y1, hy1, h⟩ := bs h
  refine lq (q_indexS Str_9 rfl rfl hy1) rfl <| qc h (m_i_isWordByte_ok N · (y1.toNat : Int) ·) rfl rfl rfl fun x1 h => la rfl <| en ?_
  refine ch h rfl ?_ ?_ <;> intro h
  ·refine att 4 [] rfl ?_
   exact rt hF h
  refine att 7 [] rfl ?_
  exact lb [] [] (ih1 _ h)
 refine att 5 [] rfl ?_
 exact rt hF h
theorem m_i_NameOk_ok  (w0 : Base Ψ Φ []) (p0 : ByteArray)  {r : Bool} (h : m_i_NameOk N p0 = some r) :
  CB w0 prog 30 [.string p0] (.bool r) := by
 refine eN func30 rfl ntmps30 rfl w0 fun hF => ?_
 unfold m_i_NameOk at h
 refine atr 7 [] rfl <| lq (q_lenS Str_9 rfl rfl) rfl <| arr 2 [] rfl ?_
 obtain ⟨b1, hb_1, h⟩ := bs h
 refine WL.cutN 4 [(10, .bool b1), (0, .string p0), (2, .bool false)] ?_ (fun K => ?_)
 rotate_left
 ·refine sp 6 hb_1 rfl (fun hb_1 => ?_) fun hb_1 => ?_
  ·refine ly rfl rfl <| la rfl <| ly rfl rfl ?_
   obtain ⟨y1, hy1, hb_1⟩ := bs hb_1
   refine lq (q_indexS Str_9 rfl rfl hy1) rfl <| ly rfl rfl <| qc hb_1 (m_i_isSmall_ok N · (y1.toNat : Int) ·) rfl rfl rfl fun x1 hb_1 => la rfl ?_
   cases hb_1
   exact ku K
  ·refine arr 4 [] rfl ?_
   cases hb_1
   exact ku K
 refine la rfl ?_
 obtain ⟨b2, hb_2, h⟩ := bs h
 refine WL.cutN 3 [(14, .bool b2), (2, .bool false)] ?_ (fun K => ?_)
 rotate_left
 ·refine sp 11 hb_2 rfl (fun hb_2 => ?_) fun hb_2 => ?_
  ·refine ly rfl rfl <| la rfl <| ly rfl rfl <| qc hb_2 (m_i_isWord_ok N · p0 12 ·) rfl rfl rfl fun x2 hb_2 => la rfl ?_
   cases hb_2
   exact ku K
  ·refine arr 3 [] rfl ?_
   cases hb_2
   exact ku K
 refine la rfl <| en ?_
 exact rt hF h
end Go.Proofs.YteipbimepilcfaaGreatDoor
