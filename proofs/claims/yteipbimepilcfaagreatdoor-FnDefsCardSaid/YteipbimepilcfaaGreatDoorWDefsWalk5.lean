/- Printed by a program of ours: each Go function computes its Lean function. -/
import Derived.Test.YteipbimepilcfaaGreatDoorProg
import Derived.Test.YteipbimepilcfaaGreatDoorWDefsWalk4
namespace Go.Proofs.YteipbimepilcfaaGreatDoor
open Eng Tryz
open Go.RowKit (Below)
set_option linter.unusedVariables false
set_option linter.unusedSimpArgs false

set_option maxRecDepth 100000
set_option maxHeartbeats 1000000
variable {Ψ Φ : Hp} {pv0_0 pv1_0 pv1_1 pv1_2 pv0 pv1 pv0_1 pv0_2 : Value} {pG0_0 pG1_0 pG1_1 pG1_2 pG0 pG1 pG0_1 pG0_2 : List Nat} {pb0 : Nat} (N : Nat)
theorem m_s_l9Bend_ok (w0 : Base Ψ Φ [[pb0]].flatten) (p0 : Tl1Cur) (p1 : TRule) (ph0_0 : RSl (RI .u8) 1 Ψ pG0_0 pv0_0 p0.b) (pp0 : Φ pb0 = some (.cells #[pv0_0, iV p0.i, iV p0.h] 107 (0, 0))) (ph1_0 : RSl RTPat 3 Ψ pG1_0 pv1_0 p1.Pats) (ph1_1 : RSl RTCond 11 Ψ pG1_1 pv1_1 p1.Conds) (ph1_2 : RSl RTAct 5 Ψ pG1_2 pv1_2 p1.Acts) {r : TRule × Tl1Cur} (h : m_s_l9Bend N p0 p1 = some r) :
  Calls prog 75 [pQ pb0, .agg [.string p1.Name, iV p1.Sal, pv1_0, pv1_1, pv1_2].toArray].toArray w0.w (PostG Φ w0.w [[pb0]].flatten (fun Φ' Fs v => ∃ (sr_0_0 : Value) (Dr_0_0 : List Nat) (sr_0_1 : Value) (Gr_0_1 : List Nat) (sr_0_2 : Value) (Gr_0_2 : List Nat) (X : List Nat), v = .agg [.string r.1.Name, iV r.1.Sal, sr_0_0, sr_0_1, sr_0_2].toArray ∧ Fs = [ob sr_0_0, [pb0], X] ∧ OSl RTPat 35 3 Φ' Dr_0_0 sr_0_0 r.1.Pats ∧ (∀ k ∈ Dr_0_0, k ∈ (X ++ pG1_0)) ∧ RSl RTCond 11 Φ' Gr_0_1 sr_0_1 r.1.Conds ∧ (∀ k ∈ Gr_0_1, k ∈ (X ++ pG1_1)) ∧ RSl RTAct 5 Φ' Gr_0_2 sr_0_2 r.1.Acts ∧ (∀ k ∈ Gr_0_2, k ∈ (X ++ pG1_2)) ∧ r.2.b = p0.b ∧ Φ' pb0 = some (.cells #[pv0_0, iV r.2.i, iV r.2.h] 107 (0, 0)))) := by
 refine eL func75 rfl ntmps75 rfl (L := [[pb0]]) w0 (fun hF => ?_)
 unfold m_s_l9Bend at h
 refine sr <| lbx rfl fun b_1 => lnz Zr_28 rfl fun b_2 => en <| sr ?_
 have rc1 : RC OTPat 3 Φ ([] : List (List Nat)) [] ([] : List TPat) := RC.nil _ _ _
 refine le' (e_lit (vs := []) (C := #[]) OTPat.lasts Sl_24 Zr_35 rfl rfl rfl rfl (fill_made MC_35_0 (fill_nil)) rfl rc1 rfl (by simpa using Kw.nil)) rfl ?_
 rintro v1 Φ_1 D1 ⟨fr1, h1⟩
 replace h1 : OSl OTPat 35 3 Φ_1 [] v1 ([] : List TPat) := by simpa [List.append_assoc] using h1
 replace pp0 := fr1 _ _ (by simp) pp0
 refine WL.conv (S' := St w0 Φ_1 [(b_2, .cells #[.string (⟨#[]⟩ : ByteArray), iV 0, .slice none 0 0, .slice none 0 0, .slice none 0 0] 28 (0, 0)), (b_1, .cells #[.string p1.Name, iV p1.Sal, pv1_0, pv1_1, pv1_2] 28 (0, 0))] [[], ob v1, [pb0]]) (fun w1 hw => hw.addNil) <| arr 2 [2, 32] rfl <| lu0 ph1_0 fun h2 => ?_
 obtain ⟨x1, hx1, h⟩ := bs h
 replace h1 := h1.gives OTPat.gives
 refine le' (e_appS RTPat.lasts RTPat.knows RTPat.one Sl_24 Ei_35 rfl rfl rfl rfl rfl (js := [1]) (Rr := [[], [pb0]]) rfl h1 h2 (fun ap => dN) (fun ap => (ap.o ph1_0.old)) hx1) rfl ?_
 rintro v2 Φ_2 D2 ⟨⟨ap1, fr2⟩, hin1, h3⟩
 replace pp0 := fr2 _ _ ((ap1.q 1 rfl) _ (by simp)) pp0
 refine lf Fld_28_2 rfl rfl rfl <| so1 1 Sz_24 rfl h3.one ?_
 refine arr 5 [] rfl <| kcb [2] h rfl rfl rfl rfl (fun b ap z q => m_s_l1Below_ok N b p0 10 (ph0_0.y z) pp0 q) ?_
 rintro x2 h v3 Φ_3 F1 ⟨ap2, fr3, rfl, rfl, e1, h4⟩
 replace h3 := h3.fr fr3 (ap2.q 0 rfl) (Dj.sub (ap2.o ph1_0.old) (fun k hk => (by simpa using hin1 k hk : k ∈ pG1_0)))
 refine art 7 [] rfl <| wt0 <| tu ph1_1 fun h5 => tu ph1_2 fun h6 => ?_
 refine cut (σ := Hp × List Nat × (List TPat) × Value × List Nat × Int × Int × ByteArray × Int × (List TCond) × Value × List Nat × (List TAct) × Value × List Nat) (fun s => [(3, pQ b_1), (4, pQ b_2)]) (fun s => St w0 s.1 [(b_2, .cells #[.string (⟨#[]⟩ : ByteArray), iV 0, .slice none 0 0, .slice none 0 0, .slice none 0 0] 28 (0, 0)), (b_1, .cells #[.string s.2.2.2.2.2.2.2.1, iV s.2.2.2.2.2.2.2.2.1, s.2.2.2.1, s.2.2.2.2.2.2.2.2.2.2.1, s.2.2.2.2.2.2.2.2.2.2.2.2.2.1] 28 (0, 0))] [s.2.1, [pb0], ob s.2.2.2.1]) (fun s => m_s_l9Bend_j1 N p0 s.2.2.1 s.2.2.2.2.2.1 s.2.2.2.2.2.2.1 s.2.2.2.2.2.2.2.1 s.2.2.2.2.2.2.2.2.1 s.2.2.2.2.2.2.2.2.2.1 s.2.2.2.2.2.2.2.2.2.2.2.2.1 = some r ∧ (OSl RTPat 35 3 s.1 s.2.2.2.2.1 s.2.2.2.1 s.2.2.1) ∧ (∀ k ∈ s.2.2.2.2.1, k ∈ (pG1_0 ++ s.2.1)) ∧ (s.1 pb0 = some (.cells #[pv0_0, iV s.2.2.2.2.2.1, iV s.2.2.2.2.2.2.1] 107 (0, 0))) ∧ (RSl RTCond 11 s.1 s.2.2.2.2.2.2.2.2.2.2.2.1 s.2.2.2.2.2.2.2.2.2.2.1 s.2.2.2.2.2.2.2.2.2.1) ∧ (∀ k ∈ s.2.2.2.2.2.2.2.2.2.2.2.1, k ∈ (pG1_1 ++ s.2.1)) ∧ (RSl RTAct 5 s.1 s.2.2.2.2.2.2.2.2.2.2.2.2.2.2 s.2.2.2.2.2.2.2.2.2.2.2.2.2.1 s.2.2.2.2.2.2.2.2.2.2.2.2.1) ∧ (∀ k ∈ s.2.2.2.2.2.2.2.2.2.2.2.2.2.2, k ∈ (pG1_2 ++ s.2.1))) (fun s hm => ?_) (fun K => ?_)
 ·clear h
  obtain ⟨Φ_4, X1, s1, u1, D4, s2, s3, s4, s5, s6, u2, H1, s7, u3, H2⟩ := s
  obtain ⟨h, k1, i1, k2, k3, i2, k4, i3⟩ := hm
  dsimp only at h k1 i1 k2 k3 i2 k4 i3 ⊢
  unfold m_s_l9Bend_j1 at h
  refine atr 4 [37] rfl <| soN 0 Sz_28 rfl ⟨rfl, rfl, k1.one, k3.one, k4.one, trivial⟩ rfl ?_
  refine en ?_
  refine WT.ret hF (resOk.one (rv_cell Tn_28 rfl (fun w1 hw => hw.rgO (i := 0) rfl 0 5 [.string s4, iV s5, u1, u2, u3] rfl) rfl)) (fun w1 hw => ?_)
  cases h
  replace hw := hw.merge (js := [0]) (F := [X1].flatten) rfl (SP.eq (by simp))
  refine postG_of_St (js := [2, 1, 0]) hw rfl ⟨u1, D4, u2, H1, u3, H2, [X1].flatten, rfl, rfl, k1, (fun k hk => ((List.mem_append.1 (i1 k hk)).elim (fun h => (List.mem_append.2 (.inr h))) (fun h => (List.mem_append.2 (.inl (List.mem_flatten.2 ⟨X1, by simp, h⟩)))))), k3, (fun k hk => ((List.mem_append.1 (i2 k hk)).elim (fun h => (List.mem_append.2 (.inr h))) (fun h => (List.mem_append.2 (.inl (List.mem_flatten.2 ⟨X1, by simp, h⟩)))))), k4, (fun k hk => ((List.mem_append.1 (i3 k hk)).elim (fun h => (List.mem_append.2 (.inr h))) (fun h => (List.mem_append.2 (.inl (List.mem_flatten.2 ⟨X1, by simp, h⟩)))))), rfl, k2⟩
 refine ch h rfl ?_ ?_ <;> intro h
 ·refine atr 2 [] rfl ?_
  have rc2 : RC RS 1 Φ_3 ([[], [], []] : List (List Nat)) [.string (⟨#[]⟩ : ByteArray), .string (⟨#[65]⟩ : ByteArray), .string (⟨#[120]⟩ : ByteArray)] ([(⟨#[]⟩ : ByteArray), (⟨#[65]⟩ : ByteArray), (⟨#[120]⟩ : ByteArray)] : List ByteArray) := RC.cons (c := [.string (⟨#[]⟩ : ByteArray)]) (cells := [.string (⟨#[65]⟩ : ByteArray), .string (⟨#[120]⟩ : ByteArray)]) ⟨rfl, rfl⟩ rfl (RC.cons (c := [.string (⟨#[65]⟩ : ByteArray)]) (cells := [.string (⟨#[120]⟩ : ByteArray)]) ⟨rfl, rfl⟩ rfl (RC.cons (c := [.string (⟨#[120]⟩ : ByteArray)]) (cells := []) ⟨rfl, rfl⟩ rfl (RC.nil _ _ _)))
  refine le' (e_lit (vs := [(0, .string (⟨#[]⟩ : ByteArray)), (1, .string (⟨#[65]⟩ : ByteArray)), (2, .string (⟨#[120]⟩ : ByteArray))]) (C := #[.string (⟨#[]⟩ : ByteArray), .string (⟨#[65]⟩ : ByteArray), .string (⟨#[120]⟩ : ByteArray)]) RS.lasts Sl_68 Zr_9 rfl rfl rfl rfl (fill_made MC_9_3 (fill_cons (C' := [.string (⟨#[]⟩ : ByteArray), .string ⟨#[]⟩, .string ⟨#[]⟩]) rfl rfl rfl rfl rfl (fill_cons (C' := [.string (⟨#[]⟩ : ByteArray), .string (⟨#[65]⟩ : ByteArray), .string ⟨#[]⟩]) rfl rfl rfl rfl rfl (fill_cons (C' := [.string (⟨#[]⟩ : ByteArray), .string (⟨#[65]⟩ : ByteArray), .string (⟨#[120]⟩ : ByteArray)]) rfl rfl rfl rfl rfl (fill_nil))))) rfl rc2 rfl (by simpa using Kw.nil)) rfl ?_
  rintro v4 Φ_5 D5 ⟨fr4, h7⟩
  replace h7 : OSl RS 9 1 Φ_5 [] v4 ([(⟨#[]⟩ : ByteArray), (⟨#[65]⟩ : ByteArray), (⟨#[120]⟩ : ByteArray)] : List ByteArray) := by simpa using h7
  replace h5 := h5.f0 fr4
  replace h6 := h6.f0 fr4
  replace h3 := h3.f0 fr4
  replace h4 := fr4 _ _ (by simp) h4
  refine kcb [2] h rfl rfl rfl rfl (fun b ap z q => m_s_l1Str_ok N b (⟨p0.b, x2.2.i, x2.2.h⟩ : Tl1Cur) ([(⟨#[]⟩ : ByteArray), (⟨#[65]⟩ : ByteArray), (⟨#[120]⟩ : ByteArray)] : List ByteArray) (ph0_0.y z) h4 (h7.rsl.x (Dj.app (ap.q 0 rfl) dN)) q) ?_
  rintro x3 h v5 Φ_6 F2 ⟨ap3, fr5, rfl, rfl, e2, h8⟩
  replace h5 := h5.fr fr5 (ap3.o ph1_1.old)
  replace h6 := h6.fr fr5 (ap3.o ph1_2.old)
  replace h3 := h3.fr fr5 (ap3.q 2 rfl) (Dj.sub (ap3.o ph1_0.old) (fun k hk => (by simpa using hin1 k hk : k ∈ pG1_0)))
  refine lf Fld_28_0 rfl rfl rfl <| so1 1 Sz_9 rfl rfl ?_
  refine en ?_
  exact wo [2, 0, 1] [0, 0] (K (_, _, _, _, _, _, _, _, _, _, _, _, _, _, _) ⟨h, h3, (fun k hk => (List.mem_append.2 (.inl ((fun k hk => (by simpa using hin1 k hk : k ∈ pG1_0)) k hk)))), h8, h5, (fun k hk => (List.mem_append.2 (.inl hk))), h6, (fun k hk => (List.mem_append.2 (.inl hk)))⟩)
 refine att 5 [] rfl ?_
 refine ch h rfl ?_ ?_ <;> intro h
 ·refine atr 2 [] rfl ?_
  have rc3 : RC (RI .i64) 1 Φ_3 ([[], [], []] : List (List Nat)) [iV (-101), iV 101, iV 100] ([(-101), 101, 100] : List Int) := RC.cons (c := [iV (-101)]) (cells := [iV 101, iV 100]) ⟨rfl, rfl⟩ rfl (RC.cons (c := [iV 101]) (cells := [iV 100]) ⟨rfl, rfl⟩ rfl (RC.cons (c := [iV 100]) (cells := []) ⟨rfl, rfl⟩ rfl (RC.nil _ _ _)))
  refine le' (e_lit (vs := [(0, iV (-101)), (1, iV 101), (2, iV 100)]) (C := #[iV (-101), iV 101, iV 100]) RI.lasts Sl_156 Zr_3 rfl rfl rfl rfl (fill_made MC_3_3 (fill_cons (C' := [iV (-101), iV 0, iV 0]) rfl rfl rfl rfl rfl (fill_cons (C' := [iV (-101), iV 101, iV 0]) rfl rfl rfl rfl rfl (fill_cons (C' := [iV (-101), iV 101, iV 100]) rfl rfl rfl rfl rfl (fill_nil))))) rfl rc3 rfl (by simpa using Kw.nil)) rfl ?_
  rintro v6 Φ_7 D6 ⟨fr6, h9⟩
  replace h9 : OSl (RI .i64) 3 1 Φ_7 [] v6 ([(-101), 101, 100] : List Int) := by simpa using h9
  replace h5 := h5.f0 fr6
  replace h6 := h6.f0 fr6
  replace h3 := h3.f0 fr6
  replace h4 := fr6 _ _ (by simp) h4
  refine kcb [2] h rfl rfl rfl rfl (fun b ap z q => m_s_l1Int_ok N b (⟨p0.b, x2.2.i, x2.2.h⟩ : Tl1Cur) ([(-101), 101, 100] : List Int) (ph0_0.y z) h4 (h9.rsl.x (Dj.app (ap.q 0 rfl) dN)) q) ?_
  rintro x4 h v7 Φ_8 F3 ⟨ap4, fr7, rfl, rfl, e3, h10⟩
  replace h5 := h5.fr fr7 (ap4.o ph1_1.old)
  replace h6 := h6.fr fr7 (ap4.o ph1_2.old)
  replace h3 := h3.fr fr7 (ap4.q 2 rfl) (Dj.sub (ap4.o ph1_0.old) (fun k hk => (by simpa using hin1 k hk : k ∈ pG1_0)))
  refine lf Fld_28_1 rfl rfl rfl <| so1 1 Sz_3 rfl rfl ?_
  refine en ?_
  exact wo [2, 0, 1] [0, 0] (K (_, _, _, _, _, _, _, _, _, _, _, _, _, _, _) ⟨h, h3, (fun k hk => (List.mem_append.2 (.inl ((fun k hk => (by simpa using hin1 k hk : k ∈ pG1_0)) k hk)))), h10, h5, (fun k hk => (List.mem_append.2 (.inl hk))), h6, (fun k hk => (List.mem_append.2 (.inl hk)))⟩)
 refine att 5 [] rfl ?_
 refine ch h rfl ?_ ?_ <;> intro h
 ·refine wm [0, 1] [7] rfl <| amm 3 [0, 2, 1, 32, 2] [0, 1] rfl rfl ?_
  obtain ⟨x5, hx5, h⟩ := bs h
  refine WM.one 3 (by kernel_rfl) (mc rfl (fun _ v Φx D w1 hq hw => Kn.of Kf.nil (ai2 0 1 rfl rfl) hw) (k_call (js := [1]) (R := [[], ob v2, []]) Fun_142 rfl rfl (fun w1 hw ap hl => m_s_l6Any_ok N (bx hw ap hl) (⟨p0.b, x2.2.i, x2.2.h⟩ : Tl1Cur) (ph0_0.y (hw.uo ap)) h4  hx5)) rfl ?_)
  rintro v8 Φ_9 F4 ⟨ap5, fr8, v9, rfl, rfl, h11, e4, h12⟩
  replace h5 := h5.fr fr8 (ap5.o ph1_1.old)
  replace h6 := h6.fr fr8 (ap5.o ph1_2.old)
  replace h3 := h3.fr fr8 (ap5.q 1 rfl) (Dj.sub (ap5.o ph1_0.old) (fun k hk => (by simpa using hin1 k hk : k ∈ pG1_0)))
  have rc4 : RC OTPat 3 Φ_9 ([(ob v9 ++ [])] : List (List Nat)) [.string x5.1.Kind, v9, .bool x5.1.Not] ([x5.1] : List TPat) := RC.cons (c := [.string x5.1.Kind, v9, .bool x5.1.Not]) (cells := []) ⟨v9, rfl, rfl, h11⟩ rfl (RC.nil _ _ _)
  refine WM.one 4 (by kernel_rfl) (me rfl (fun _ v Φx D w1 hq hw => Kn.of Kf.nil (ai2 0 1 rfl rfl) hw) (e_lit (vs := [(0, .agg [.string x5.1.Kind, v9, .bool x5.1.Not].toArray)]) (C := #[.string x5.1.Kind, v9, .bool x5.1.Not]) OTPat.lasts Sl_24 Zr_35 rfl rfl rfl rfl (fill_made MC_35_1 (fill_cons (C' := [.string x5.1.Kind, v9, .bool x5.1.Not]) rfl rfl rfl rfl rfl (fill_nil))) rfl rc4 rfl (RC.kn OTPat.knows rc4)) rfl ?_)
  rintro v10 Φ_10 D7 ⟨fr9, h13⟩
  replace h13 : OSl OTPat 35 3 Φ_10 ((ob v9 ++ [])) v10 ([x5.1] : List TPat) := by simpa [List.append_assoc] using h13
  replace h5 := h5.f0 fr9
  replace h6 := h6.f0 fr9
  replace h3 := h3.f0 fr9
  replace h12 := fr9 _ _ (by simp) h12
  refine WM.conv (S' := St w0 Φ_10 [(b_2, .cells #[.string (⟨#[]⟩ : ByteArray), iV 0, .slice none 0 0, .slice none 0 0, .slice none 0 0] 28 (0, 0)), (b_1, .cells #[.string p1.Name, iV p1.Sal, v2, pv1_1, pv1_2] 28 (0, 0))] [((ob v9 ++ [])), ob v10, [pb0], [], ob v2, []]) (fun w1 hw => hw.merge (js := [1]) rfl (SP.eq (by simp [List.append_assoc, ob_nil]))) ?_
  obtain ⟨x6, hx6, h⟩ := bs h
  refine WM.one 5 (by kernel_rfl) (me rfl (fun _ v Φx D w1 hq hw => Kn.of Kf.nil (ai2 0 1 rfl rfl) hw) (e_appO RTPat.lasts RTPat.one Sl_24 Ei_35 rfl rfl rfl rfl rfl (js := [4]) (Rr := [((ob v9 ++ [])), ob v10, [pb0], [], []]) rfl h3 (h13.gives OTPat.gives) (fun ap => (Dj.sub (ap.o ph1_0.old) (fun k hk => (by simpa using hin1 k hk : k ∈ pG1_0)))) (fun ap => ap.q 0 rfl) hx6) rfl ?_)
  rintro v11 Φ_11 D8 ⟨⟨ap6, fr10⟩, h14⟩
  replace h5 := h5.fr fr10 (ap6.o ph1_1.old)
  replace h6 := h6.fr fr10 (ap6.o ph1_2.old)
  replace h12 := fr10 _ _ ((ap6.q 2 rfl) _ (by simp)) h12
  refine amm 1 [6, 2] [0, 1] rfl rfl ?_
  refine on1 7 (ms1 1 rfl nk Sz_24 rfl h14.one ?_)
  refine WM.nil (by kernel_rfl) <| wtL [([] ++ (((ob v9 ++ [])))), ob v11, ob v10, [pb0], []] (smg [4, 1] rfl (SP.eq (by simp [List.append_assoc]))) ?_
  exact wo [0, 2, 0] [0, 0] (K (_, _, _, _, _, _, _, _, _, _, _, _, _, _, _) ⟨h, h14, (fun k hk => ((List.mem_append.1 hk).elim (fun h => (List.mem_append.2 (.inl ((fun k hk => (by simpa using hin1 k hk : k ∈ pG1_0)) k h)))) (fun h => (List.mem_append.2 (.inr ((fun k hk => (List.mem_append.2 (.inr hk))) k h)))))), h12, h5, (fun k hk => (List.mem_append.2 (.inl hk))), h6, (fun k hk => (List.mem_append.2 (.inl hk)))⟩)
 refine att 5 [] rfl ?_
 refine ch h rfl ?_ ?_ <;> intro h
 ·refine rgn <| le' (e_lit0 RTCond.lasts Sl_25 Zr_62 rfl rfl) rfl ?_
  rintro v12 Φ_12 D9 ⟨fr11, h15⟩
  replace h5 := h5.f0 fr11
  replace h6 := h6.f0 fr11
  replace h3 := h3.f0 fr11
  replace h4 := fr11 _ _ (by simp) h4
  refine arr 2 [3, 32] rfl ?_
  obtain ⟨x7, hx7, h⟩ := bs h
  refine le' (e_appF RTCond.lasts RTCond.one RTCond.flat Sl_25 Ei_62 rfl rfl rfl rfl rfl (js := [0]) (Rr := [[], [pb0], ob v2, []]) rfl h15 h5 hx7) rfl ?_
  rintro v13 Φ_13 D10 ⟨⟨ap7, fr12⟩, h16⟩
  replace h5 := h5.fr fr12 (ap7.o ph1_1.old)
  replace h6 := h6.fr fr12 (ap7.o ph1_2.old)
  replace h3 := h3.fr fr12 (ap7.q 2 rfl) (Dj.sub (ap7.o ph1_0.old) (fun k hk => (by simpa using hin1 k hk : k ∈ pG1_0)))
  replace h4 := fr12 _ _ ((ap7.q 1 rfl) _ (by simp)) h4
  refine la rfl <| kcb [2] h rfl rfl rfl rfl (fun b ap z q => m_s_l7Any_ok N b (⟨p0.b, x2.2.i, x2.2.h⟩ : Tl1Cur) (ph0_0.y z) h4 q) ?_
  rintro x8 h v14 Φ_14 F5 ⟨ap8, fr13, rfl, rfl, e5, h17⟩
  replace h5 := h5.fr fr13 (ap8.o ph1_1.old)
  replace h6 := h6.fr fr13 (ap8.o ph1_2.old)
  replace h3 := h3.fr fr13 (ap8.q 2 rfl) (Dj.sub (ap8.o ph1_0.old) (fun k hk => (by simpa using hin1 k hk : k ∈ pG1_0)))
  replace h16 := h16.fr fr13 (ap8.q 0 rfl) dN
  have rc6 : RC RTCond 11 Φ_14 ([[]] : List (List Nat)) [iV x8.1.Op, iV x8.1.L.K, .string x8.1.L.S, iV x8.1.L.V.K, iV x8.1.L.V.N, .string x8.1.L.V.S, iV x8.1.R.K, .string x8.1.R.S, iV x8.1.R.V.K, iV x8.1.R.V.N, .string x8.1.R.V.S] ([x8.1] : List TCond) := RC.cons (c := [iV x8.1.Op, iV x8.1.L.K, .string x8.1.L.S, iV x8.1.L.V.K, iV x8.1.L.V.N, .string x8.1.L.V.S, iV x8.1.R.K, .string x8.1.R.S, iV x8.1.R.V.K, iV x8.1.R.V.N, .string x8.1.R.V.S]) (cells := []) ⟨rfl, rfl⟩ rfl (RC.nil _ _ _)
  refine le' (e_lit (vs := [(0, .agg [iV x8.1.Op, iV x8.1.L.K, .string x8.1.L.S, iV x8.1.L.V.K, iV x8.1.L.V.N, .string x8.1.L.V.S, iV x8.1.R.K, .string x8.1.R.S, iV x8.1.R.V.K, iV x8.1.R.V.N, .string x8.1.R.V.S].toArray)]) (C := #[iV x8.1.Op, iV x8.1.L.K, .string x8.1.L.S, iV x8.1.L.V.K, iV x8.1.L.V.N, .string x8.1.L.V.S, iV x8.1.R.K, .string x8.1.R.S, iV x8.1.R.V.K, iV x8.1.R.V.N, .string x8.1.R.V.S]) RTCond.lasts Sl_25 Zr_62 rfl rfl rfl rfl (fill_made MC_62_1 (fill_cons (C' := [iV x8.1.Op, iV x8.1.L.K, .string x8.1.L.S, iV x8.1.L.V.K, iV x8.1.L.V.N, .string x8.1.L.V.S, iV x8.1.R.K, .string x8.1.R.S, iV x8.1.R.V.K, iV x8.1.R.V.N, .string x8.1.R.V.S]) rfl rfl rfl rfl rfl (fill_nil))) rfl rc6 rfl (by simpa using Kw.nil)) rfl ?_
  rintro v15 Φ_15 D11 ⟨fr14, h18⟩
  replace h18 : OSl RTCond 62 11 Φ_15 [] v15 ([x8.1] : List TCond) := by simpa using h18
  replace h5 := h5.f0 fr14
  replace h6 := h6.f0 fr14
  replace h3 := h3.f0 fr14
  replace h16 := h16.f0 fr14
  replace h17 := fr14 _ _ (by simp) h17
  obtain ⟨x9, hx9, h⟩ := bs h
  refine le' (e_appF RTCond.lasts RTCond.one RTCond.flat Sl_25 Ei_62 rfl rfl rfl rfl rfl (js := [2]) (Rr := [ob v15, [pb0], [], ob v2, []]) rfl h16 h18.rsl hx9) rfl ?_
  rintro v16 Φ_16 D12 ⟨⟨ap9, fr15⟩, h19⟩
  replace h5 := h5.fr fr15 (ap9.o ph1_1.old)
  replace h6 := h6.fr fr15 (ap9.o ph1_2.old)
  replace h3 := h3.fr fr15 (ap9.q 3 rfl) (Dj.sub (ap9.o ph1_0.old) (fun k hk => (by simpa using hin1 k hk : k ∈ pG1_0)))
  replace h17 := fr15 _ _ ((ap9.q 1 rfl) _ (by simp)) h17
  refine lf Fld_28_3 rfl rfl rfl <| so1 1 Sz_25 rfl h19.one ?_
  refine en ?_
  have h20 := h19.rsl
  refine wtL [([] ++ (ob v16)), ob v15, [pb0], ob v2, []] (smg [3, 0] rfl (SP.eq (by simp [List.append_assoc]))) ?_
  exact wo [0, 1, 1] [0, 0] (K (_, _, _, _, _, _, _, _, _, _, _, _, _, _, _) ⟨h, h3, (fun k hk => (List.mem_append.2 (.inl ((fun k hk => (by simpa using hin1 k hk : k ∈ pG1_0)) k hk)))), h17, h20, (fun k hk => (List.mem_append.2 (.inr ((fun k hk => (List.mem_append.2 (.inr hk))) k (apnil k hk))))), h6, (fun k hk => (List.mem_append.2 (.inl hk)))⟩)
 refine att 5 [] rfl ?_
 refine ch h rfl ?_ ?_ <;> intro h
 ·refine rgn ?_
  have rc7 : RC OTAct 5 Φ_3 ([] : List (List Nat)) [] ([] : List TAct) := RC.nil _ _ _
  refine le' (e_lit (vs := []) (C := #[]) OTAct.lasts Sl_26 Zr_66 rfl rfl rfl rfl (fill_made MC_66_0 (fill_nil)) rfl rc7 rfl (by simpa using Kw.nil)) rfl ?_
  rintro v17 Φ_17 D13 ⟨fr16, h21⟩
  replace h21 : OSl OTAct 66 5 Φ_17 [] v17 ([] : List TAct) := by simpa [List.append_assoc] using h21
  replace h5 := h5.f0 fr16
  replace h6 := h6.f0 fr16
  replace h3 := h3.f0 fr16
  replace h4 := fr16 _ _ (by simp) h4
  refine WL.conv (S' := St w0 Φ_17 [(b_2, .cells #[.string (⟨#[]⟩ : ByteArray), iV 0, .slice none 0 0, .slice none 0 0, .slice none 0 0] 28 (0, 0)), (b_1, .cells #[.string p1.Name, iV p1.Sal, v2, pv1_1, pv1_2] 28 (0, 0))] [[], ob v17, [], [pb0], ob v2, []]) (fun w1 hw => hw.addNil) <| arr 2 [4, 32] rfl ?_
  obtain ⟨x10, hx10, h⟩ := bs h
  replace h21 := h21.gives OTAct.gives
  refine le' (e_appS RTAct.lasts RTAct.knows RTAct.one Sl_26 Ei_66 rfl rfl rfl rfl rfl (js := [1]) (Rr := [[], [], [pb0], ob v2, []]) rfl h21 h6 (fun ap => dN) (fun ap => (ap.o ph1_2.old)) hx10) rfl ?_
  rintro v18 Φ_18 D14 ⟨⟨ap10, fr17⟩, hin3, h22⟩
  replace h5 := h5.fr fr17 (ap10.o ph1_1.old)
  replace h6 := h6.fr fr17 (ap10.o ph1_2.old)
  replace h3 := h3.fr fr17 (ap10.q 3 rfl) (Dj.sub (ap10.o ph1_0.old) (fun k hk => (by simpa using hin1 k hk : k ∈ pG1_0)))
  replace h4 := fr17 _ _ ((ap10.q 2 rfl) _ (by simp)) h4
  refine la rfl <| kcb [3] h rfl rfl rfl rfl (fun b ap z q => m_s_l8Any_ok N b (⟨p0.b, x2.2.i, x2.2.h⟩ : Tl1Cur) (ph0_0.y z) h4 q) ?_
  rintro x11 h v19 Φ_19 F7 ⟨ap11, fr18, v20, rfl, rfl, h23, e7, h24⟩
  replace h5 := h5.fr fr18 (ap11.o ph1_1.old)
  replace h6 := h6.fr fr18 (ap11.o ph1_2.old)
  replace h3 := h3.fr fr18 (ap11.q 3 rfl) (Dj.sub (ap11.o ph1_0.old) (fun k hk => (by simpa using hin1 k hk : k ∈ pG1_0)))
  replace h22 := h22.fr fr18 (ap11.q 0 rfl) (Dj.sub (ap11.o ph1_2.old) (fun k hk => (by simpa using hin3 k hk : k ∈ pG1_2)))
  have rc8 : RC OTAct 5 Φ_19 ([(ob v20 ++ [])] : List (List Nat)) [iV x11.1.Kind, .string x11.1.Name, v20, iV x11.1.N, .string x11.1.Undo] ([x11.1] : List TAct) := RC.cons (c := [iV x11.1.Kind, .string x11.1.Name, v20, iV x11.1.N, .string x11.1.Undo]) (cells := []) ⟨v20, rfl, rfl, h23⟩ rfl (RC.nil _ _ _)
  refine le' (e_lit (vs := [(0, .agg [iV x11.1.Kind, .string x11.1.Name, v20, iV x11.1.N, .string x11.1.Undo].toArray)]) (C := #[iV x11.1.Kind, .string x11.1.Name, v20, iV x11.1.N, .string x11.1.Undo]) OTAct.lasts Sl_26 Zr_66 rfl rfl rfl rfl (fill_made MC_66_1 (fill_cons (C' := [iV x11.1.Kind, .string x11.1.Name, v20, iV x11.1.N, .string x11.1.Undo]) rfl rfl rfl rfl rfl (fill_nil))) rfl rc8 rfl (RC.kn OTAct.knows rc8)) rfl ?_
  rintro v21 Φ_20 D16 ⟨fr19, h25⟩
  replace h25 : OSl OTAct 66 5 Φ_20 ((ob v20 ++ [])) v21 ([x11.1] : List TAct) := by simpa [List.append_assoc] using h25
  replace h5 := h5.f0 fr19
  replace h6 := h6.f0 fr19
  replace h3 := h3.f0 fr19
  replace h22 := h22.f0 fr19
  replace h24 := fr19 _ _ (by simp) h24
  refine wlL [((ob v20 ++ [])), ob v21, [pb0], ob v18, [], [], ob v2, []] (smg [1] rfl (SP.eq (by simp [List.append_assoc, ob_nil]))) ?_
  obtain ⟨x12, hx12, h⟩ := bs h
  refine le' (e_appO RTAct.lasts RTAct.one Sl_26 Ei_66 rfl rfl rfl rfl rfl (js := [3]) (Rr := [((ob v20 ++ [])), ob v21, [pb0], [], [], ob v2, []]) rfl h22 (h25.gives OTAct.gives) (fun ap => (Dj.sub (ap.o ph1_2.old) (fun k hk => (by simpa using hin3 k hk : k ∈ pG1_2)))) (fun ap => ap.q 0 rfl) hx12) rfl ?_
  rintro v22 Φ_21 D17 ⟨⟨ap12, fr20⟩, h26⟩
  replace h5 := h5.fr fr20 (ap12.o ph1_1.old)
  replace h6 := h6.fr fr20 (ap12.o ph1_2.old)
  replace h3 := h3.fr fr20 (ap12.q 5 rfl) (Dj.sub (ap12.o ph1_0.old) (fun k hk => (by simpa using hin1 k hk : k ∈ pG1_0)))
  replace h24 := fr20 _ _ ((ap12.q 2 rfl) _ (by simp)) h24
  refine lf Fld_28_4 rfl rfl rfl <| so1 1 Sz_26 rfl h26.one ?_
  refine en ?_
  have h27 := h26.rsl
  refine wtL [([] ++ (ob v22 ++ (((ob v20 ++ []))))), ob v21, [pb0], [], ob v2, []] (smg [5, 0, 0] rfl (SP.eq (by simp [List.append_assoc]))) ?_
  exact wo [0, 1, 2] [0, 0] (K (_, _, _, _, _, _, _, _, _, _, _, _, _, _, _) ⟨h, h3, (fun k hk => (List.mem_append.2 (.inl ((fun k hk => (by simpa using hin1 k hk : k ∈ pG1_0)) k hk)))), h24, h5, (fun k hk => (List.mem_append.2 (.inl hk))), h27, (fun k hk => ((List.mem_append.1 hk).elim (fun h => (List.mem_append.2 (.inr ((fun k hk => (List.mem_append.2 (.inr (List.mem_append.2 (.inl hk))))) k h)))) (fun h => ((List.mem_append.1 h).elim (fun h => (List.mem_append.2 (.inl ((fun k hk => (by simpa using hin3 k hk : k ∈ pG1_2)) k h)))) (fun h => (List.mem_append.2 (.inr ((fun k hk => (List.mem_append.2 (.inr (List.mem_append.2 (.inr hk))))) k h))))))))⟩)
 refine att 5 [] rfl ?_
 refine ch h rfl ?_ ?_ <;> intro h
 ·refine atr 3 [2, 32] rfl ?_
  obtain ⟨x13, hx13, h⟩ := bs h
  obtain ⟨cs1, F9, D18, h28, r1, kf1, sp1⟩ := h3.focus hx13
  obtain ⟨v23, G1, rfl, hq1, h29⟩ := r1
  obtain rfl := hq1.symm
  refine lih h28 hx13 rfl <| lf Fld_35_2 rfl rfl rfl <| lu (us [2] [[], [pb0], []] 2 RTPat.lasts Sz_4 rfl rfl rfl rfl h28 rfl (fun ap => (Dj.sub (Dj.sub (ap.o ph1_0.old) (fun k hk => (by simpa using hin1 k hk : k ∈ pG1_0))) (fun k hk => sp1.mem (List.mem_append.2 (.inr hk)))))) rfl ?_
  rintro Φ_22 D19 ⟨⟨ap13, fr21⟩, h30⟩
  replace h29 := h29.fr fr21 (Dj.sub (ap13.o ph1_0.old) (fun k h => (fun k hk => (by simpa using hin1 k hk : k ∈ pG1_0)) k (sp1.mem (List.mem_append.2 (.inl h)))))
  replace h5 := h5.fr fr21 (ap13.o ph1_1.old)
  replace h6 := h6.fr fr21 (ap13.o ph1_2.old)
  replace h4 := fr21 _ _ ((ap13.q 1 rfl) _ (by simp)) h4
  refine en ?_
  have r2 : RTPat Φ_22 _ [.string x13.Kind, v23, .bool true] (⟨x13.Kind, x13.Args, true⟩ : TPat) := ⟨v23, G1, rfl, rfl, h29⟩
  obtain ⟨D20, h31, sp2⟩ := h30.unfocus r2 (RTPat.knows _ _ _ _ r2)
  exact wo [1, 1, 0] [0, 0] (K (_, _, _, _, _, _, _, _, _, _, _, _, _, _, _) ⟨h, h31, (fun k hk => ((List.mem_append.1 ((fun k hk => (by simpa [List.append_assoc] using sp2.mem hk : k ∈ (G1 ++ D18))) k hk)).elim (fun h => (List.mem_append.2 (.inl ((fun k h => (fun k hk => (by simpa using hin1 k hk : k ∈ pG1_0)) k (sp1.mem (List.mem_append.2 (.inl h)))) k h)))) (fun h => (List.mem_append.2 (.inl ((fun k hk => (fun k hk => (by simpa using hin1 k hk : k ∈ pG1_0)) k (sp1.mem (List.mem_append.2 (.inr hk)))) k h)))))), h4, h5, (fun k hk => (List.mem_append.2 (.inl hk))), h6, (fun k hk => (List.mem_append.2 (.inl hk)))⟩)
 refine att 5 [] rfl ?_
 refine ch h rfl ?_ ?_ <;> intro h
 ·refine atr 3 [4, 32] rfl ?_
  obtain ⟨x14, hx14, h⟩ := bs h
  refine lq (q_slH Sl_26 rfl rfl h6 hx14) rfl ?_
  obtain ⟨F10, h32, hs1⟩ := h6.sub hx14
  refine lf Fld_28_4 rfl rfl rfl <| so1 1 Sz_26 rfl h32.one ?_
  refine en ?_
  exact wo [0, 0, 0] [0, 0] (K (_, _, _, _, _, _, _, _, _, _, _, _, _, _, _) ⟨h, h3, (fun k hk => (List.mem_append.2 (.inl ((fun k hk => (by simpa using hin1 k hk : k ∈ pG1_0)) k hk)))), h4, h5, (fun k hk => (List.mem_append.2 (.inl hk))), h32, (fun k hk => (List.mem_append.2 (.inl (hs1 k hk))))⟩)
 refine WT.skip ?_
 exact wo [0, 0, 0] [0, 0] (K (_, _, _, _, _, _, _, _, _, _, _, _, _, _, _) ⟨h, h3, (fun k hk => (List.mem_append.2 (.inl ((fun k hk => (by simpa using hin1 k hk : k ∈ pG1_0)) k hk)))), h4, h5, (fun k hk => (List.mem_append.2 (.inl hk))), h6, (fun k hk => (List.mem_append.2 (.inl hk)))⟩)
theorem m_s_l9Any_ok (w0 : Base Ψ Φ [[pb0]].flatten) (p0 : Tl1Cur) (ph0_0 : RSl (RI .u8) 1 Ψ pG0_0 pv0_0 p0.b) (pp0 : Φ pb0 = some (.cells #[pv0_0, iV p0.i, iV p0.h] 107 (0, 0))) {r : TRule × Tl1Cur} (h : m_s_l9Any N p0 = some r) :
  Calls prog 29 [pQ pb0].toArray w0.w (PostG Φ w0.w [[pb0]].flatten (fun Φ' Fs v => ∃ (sr_0_0 : Value) (Dr_0_0 : List Nat) (sr_0_1 : Value) (Gr_0_1 : List Nat) (sr_0_2 : Value) (Gr_0_2 : List Nat) (X : List Nat), v = .agg [.string r.1.Name, iV r.1.Sal, sr_0_0, sr_0_1, sr_0_2].toArray ∧ Fs = [ob sr_0_0, [pb0], X] ∧ OSl RTPat 35 3 Φ' Dr_0_0 sr_0_0 r.1.Pats ∧ (∀ k ∈ Dr_0_0, k ∈ X) ∧ RSl RTCond 11 Φ' Gr_0_1 sr_0_1 r.1.Conds ∧ (∀ k ∈ Gr_0_1, k ∈ X) ∧ RSl RTAct 5 Φ' Gr_0_2 sr_0_2 r.1.Acts ∧ (∀ k ∈ Gr_0_2, k ∈ X) ∧ r.2.b = p0.b ∧ Φ' pb0 = some (.cells #[pv0_0, iV r.2.i, iV r.2.h] 107 (0, 0)))) := by
 refine eL func29 rfl ntmps29 rfl (L := [[pb0]]) w0 (fun hF => ?_)
 unfold m_s_l9Any at h
 refine sr <| lnz Zr_28 rfl fun b_1 => arr 5 [] rfl ?_
 have rc1 : RC RS 1 Φ ([[], [], []] : List (List Nat)) [.string (⟨#[114, 49]⟩ : ByteArray), .string (⟨#[114, 50]⟩ : ByteArray), .string (⟨#[115, 104, 105, 112]⟩ : ByteArray)] ([(⟨#[114, 49]⟩ : ByteArray), (⟨#[114, 50]⟩ : ByteArray), (⟨#[115, 104, 105, 112]⟩ : ByteArray)] : List ByteArray) := RC.cons (c := [.string (⟨#[114, 49]⟩ : ByteArray)]) (cells := [.string (⟨#[114, 50]⟩ : ByteArray), .string (⟨#[115, 104, 105, 112]⟩ : ByteArray)]) ⟨rfl, rfl⟩ rfl (RC.cons (c := [.string (⟨#[114, 50]⟩ : ByteArray)]) (cells := [.string (⟨#[115, 104, 105, 112]⟩ : ByteArray)]) ⟨rfl, rfl⟩ rfl (RC.cons (c := [.string (⟨#[115, 104, 105, 112]⟩ : ByteArray)]) (cells := []) ⟨rfl, rfl⟩ rfl (RC.nil _ _ _)))
 refine le' (e_lit (vs := [(0, .string (⟨#[114, 49]⟩ : ByteArray)), (1, .string (⟨#[114, 50]⟩ : ByteArray)), (2, .string (⟨#[115, 104, 105, 112]⟩ : ByteArray))]) (C := #[.string (⟨#[114, 49]⟩ : ByteArray), .string (⟨#[114, 50]⟩ : ByteArray), .string (⟨#[115, 104, 105, 112]⟩ : ByteArray)]) RS.lasts Sl_68 Zr_9 rfl rfl rfl rfl (fill_made MC_9_3 (fill_cons (C' := [.string (⟨#[114, 49]⟩ : ByteArray), .string ⟨#[]⟩, .string ⟨#[]⟩]) rfl rfl rfl rfl rfl (fill_cons (C' := [.string (⟨#[114, 49]⟩ : ByteArray), .string (⟨#[114, 50]⟩ : ByteArray), .string ⟨#[]⟩]) rfl rfl rfl rfl rfl (fill_cons (C' := [.string (⟨#[114, 49]⟩ : ByteArray), .string (⟨#[114, 50]⟩ : ByteArray), .string (⟨#[115, 104, 105, 112]⟩ : ByteArray)]) rfl rfl rfl rfl rfl (fill_nil))))) rfl rc1 rfl (by simpa using Kw.nil)) rfl ?_
 rintro v1 Φ_1 D1 ⟨fr1, h1⟩
 replace h1 : OSl RS 9 1 Φ_1 [] v1 ([(⟨#[114, 49]⟩ : ByteArray), (⟨#[114, 50]⟩ : ByteArray), (⟨#[115, 104, 105, 112]⟩ : ByteArray)] : List ByteArray) := by simpa using h1
 replace pp0 := fr1 _ _ (by simp) pp0
 refine kcb [1] h rfl rfl rfl rfl (fun b ap z q => m_s_l1Str_ok N b p0 ([(⟨#[114, 49]⟩ : ByteArray), (⟨#[114, 50]⟩ : ByteArray), (⟨#[115, 104, 105, 112]⟩ : ByteArray)] : List ByteArray) (ph0_0.y z) pp0 (h1.rsl.x (Dj.app (ap.q 0 rfl) dN)) q) ?_
 rintro x1 h v2 Φ_2 F1 ⟨ap1, fr2, rfl, rfl, e1, h2⟩
 refine kcb [0] h rfl rfl rfl rfl (fun b ap z q => m_s_l9Draw_ok N b (⟨p0.b, x1.2.i, x1.2.h⟩ : Tl1Cur) x1.1 (ph0_0.y z) h2 q) ?_
 rintro x2 h v3 Φ_3 F2 ⟨ap2, fr3, v4, D2, v5, v6, D3, rfl, rfl, h3, h4, h5, e2, h6⟩
 refine lnz Zr_28 rfl fun b_2 => soN 0 Sz_28 rfl ⟨rfl, rfl, h3.one, h4.one, h5.one, trivial⟩ rfl ?_
 refine arr 5 [] rfl <| kcb [5] h rfl rfl rfl rfl (fun b ap z q => m_s_l1Once_ok N b (⟨p0.b, x2.2.i, x2.2.h⟩ : Tl1Cur) 3 (ph0_0.y z) h6 q) ?_
 rintro x3 h v7 Φ_4 F3 ⟨ap3, fr4, rfl, rfl, e3, h7⟩
 replace h3 := h3.fr fr4 (ap3.q 0 rfl) (ap3.q 1 rfl)
 replace h4 := h4.fr fr4 (ap3.q 2 rfl) dN
 replace h5 := h5.fr fr4 (ap3.q 3 rfl) (ap3.q 4 rfl)
 refine en <| wt0 ?_
 have h8 := h4.rsl
 have h9 := (h5.rslG OTAct.gives)
 replace h3 := h3.gives OTPat.gives
 refine cut (σ := Hp × List Nat × (List TPat) × Value × List Nat × Int × Int × ByteArray × Int × (List TCond) × Value × List Nat × (List TAct) × Value × List Nat) (fun s => [(2, pQ b_1), (3, pQ b_2)]) (fun s => St w0 s.1 [(b_2, .cells #[.string s.2.2.2.2.2.2.2.1, iV s.2.2.2.2.2.2.2.2.1, s.2.2.2.1, s.2.2.2.2.2.2.2.2.2.2.1, s.2.2.2.2.2.2.2.2.2.2.2.2.2.1] 28 (0, 0)), (b_1, .cells #[.string (⟨#[]⟩ : ByteArray), iV 0, .slice none 0 0, .slice none 0 0, .slice none 0 0] 28 (0, 0))] [s.2.1, [pb0], ob s.2.2.2.1, D2, ob v5, ob v6, D3]) (fun s => m_s_l9Any_j1 N p0 s.2.2.1 s.2.2.2.2.2.1 s.2.2.2.2.2.2.1 s.2.2.2.2.2.2.2.1 s.2.2.2.2.2.2.2.2.1 s.2.2.2.2.2.2.2.2.2.1 s.2.2.2.2.2.2.2.2.2.2.2.2.1 = some r ∧ (OSl RTPat 35 3 s.1 s.2.2.2.2.1 s.2.2.2.1 s.2.2.1) ∧ (∀ k ∈ s.2.2.2.2.1, k ∈ (D2 ++ s.2.1)) ∧ (s.1 pb0 = some (.cells #[pv0_0, iV s.2.2.2.2.2.1, iV s.2.2.2.2.2.2.1] 107 (0, 0))) ∧ (RSl RTCond 11 s.1 s.2.2.2.2.2.2.2.2.2.2.2.1 s.2.2.2.2.2.2.2.2.2.2.1 s.2.2.2.2.2.2.2.2.2.1) ∧ (∀ k ∈ s.2.2.2.2.2.2.2.2.2.2.2.1, k ∈ (ob v5 ++ s.2.1)) ∧ (RSl RTAct 5 s.1 s.2.2.2.2.2.2.2.2.2.2.2.2.2.2 s.2.2.2.2.2.2.2.2.2.2.2.2.2.1 s.2.2.2.2.2.2.2.2.2.2.2.2.1) ∧ (∀ k ∈ s.2.2.2.2.2.2.2.2.2.2.2.2.2.2, k ∈ (ob v6 ++ (D3 ++ s.2.1)))) (fun s hm => ?_) (fun K => ?_)
 ·clear h
  obtain ⟨Φ_5, X1, s1, u1, D4, s2, s3, s4, s5, s6, u2, H1, s7, u3, H2⟩ := s
  obtain ⟨h, k1, i1, k2, k3, i2, k4, i3⟩ := hm
  dsimp only at h k1 i1 k2 k3 i2 k4 i3 ⊢
  unfold m_s_l9Any_j1 at h
  refine atr 3 [5] rfl <| soN 1 Sz_28 rfl ⟨rfl, rfl, k1.one, k3.one, k4.one, trivial⟩ rfl ?_
  refine en ?_
  refine WT.ret hF (resOk.one (rv_cell Tn_28 rfl (fun w1 hw => hw.rgO (i := 1) rfl 0 5 [.string s4, iV s5, u1, u2, u3] rfl) rfl)) (fun w1 hw => ?_)
  cases h
  replace hw := hw.merge (js := [3, 0, 2, 2, 2]) (F := [D2, X1, ob v5, ob v6, D3].flatten) rfl (SP.eq (by simp))
  refine postG_of_St (js := [2, 1, 0]) hw rfl ⟨u1, D4, u2, H1, u3, H2, [D2, X1, ob v5, ob v6, D3].flatten, rfl, rfl, k1, (fun k hk => ((List.mem_append.1 (i1 k hk)).elim (fun h => (List.mem_flatten.2 ⟨D2, by simp, h⟩)) (fun h => (List.mem_flatten.2 ⟨X1, by simp, h⟩)))), k3, (fun k hk => ((List.mem_append.1 (i2 k hk)).elim (fun h => (List.mem_flatten.2 ⟨ob v5, by simp, h⟩)) (fun h => (List.mem_flatten.2 ⟨X1, by simp, h⟩)))), k4, (fun k hk => ((List.mem_append.1 (i3 k hk)).elim (fun h => (List.mem_flatten.2 ⟨ob v6, by simp, h⟩)) (fun h => ((List.mem_append.1 h).elim (fun h => (List.mem_flatten.2 ⟨D3, by simp, h⟩)) (fun h => (List.mem_flatten.2 ⟨X1, by simp, h⟩)))))), rfl, k2⟩
 refine ch h rfl ?_ ?_ <;> intro h
 ·refine atr 3 [5] rfl <| kcb [1] h rfl rfl rfl rfl (fun b ap z q => m_s_l9Bend_ok N b (⟨p0.b, x3.2.i, x3.2.h⟩ : Tl1Cur) x2.1 (ph0_0.y z) h7 (h3.rsl.x (Dj.app (ap.q 1 rfl) (ap.q 2 rfl))) (h8.x (Dj.sub (ap.q 3 rfl) apnil)) (h9.x (Dj.app (ap.q 4 rfl) (ap.q 5 rfl))) q) ?_
  rintro x4 h v8 Φ_6 F6 ⟨ap4, fr5, v9, D5, v10, G1, v11, G2, X2, rfl, rfl, h10, i4, h11, i5, h12, i6, e6, h13⟩
  replace h8 := h8.fr fr5 (Dj.sub (ap4.q 3 rfl) apnil)
  replace h9 := h9.fr fr5 (Dj.app (ap4.q 4 rfl) (ap4.q 5 rfl))
  replace h3 := h3.fr fr5 (ap4.q 1 rfl) (ap4.q 2 rfl)
  refine soN 0 Sz_28 rfl ⟨rfl, rfl, h10.one, h11.one, h12.one, trivial⟩ rfl ?_
  refine en <| wtL [([] ++ (X2 ++ (ob v4))), ob v9, [pb0], D2, ob v5, ob v6, D3, ob v1] (smg [3, 2, 2] rfl (SP.eq (by simp [List.append_assoc]))) ?_
  exact wo [0, 1, 0, 0, 0, 0, 0] [0, 0] (K (_, _, _, _, _, _, _, _, _, _, _, _, _, _, _) ⟨h, h10, (fun k hk => ((List.mem_append.1 (i4 k hk)).elim (fun h => (List.mem_append.2 (.inr ((fun k hk => (List.mem_append.2 (.inr (List.mem_append.2 (.inl hk))))) k h)))) (fun h => ((List.mem_append.1 h).elim (fun h => (List.mem_append.2 (.inr ((fun k hk => (List.mem_append.2 (.inr (List.mem_append.2 (.inr hk))))) k h)))) (fun h => (List.mem_append.2 (.inl h))))))), h13, h11, (fun k hk => ((List.mem_append.1 (i5 k hk)).elim (fun h => (List.mem_append.2 (.inr ((fun k hk => (List.mem_append.2 (.inr (List.mem_append.2 (.inl hk))))) k h)))) (fun h => (List.mem_append.2 (.inl (apnil k h)))))), h12, (fun k hk => ((List.mem_append.1 (i6 k hk)).elim (fun h => (List.mem_append.2 (.inr (List.mem_append.2 (.inr ((fun k hk => (List.mem_append.2 (.inr (List.mem_append.2 (.inl hk))))) k h)))))) (fun h => ((List.mem_append.1 h).elim (fun h => (List.mem_append.2 (.inl h))) (fun h => (List.mem_append.2 (.inr (List.mem_append.2 (.inl h)))))))))⟩)
 refine WT.skip ?_
 exact wo [0, 0, 0, 0, 0, 0, 0] [0, 0] (K (_, _, _, _, _, _, _, _, _, _, _, _, _, _, _) ⟨h, h3, (fun k hk => (List.mem_append.2 (.inl hk))), h7, h8, (fun k hk => (List.mem_append.2 (.inl (apnil k hk)))), h9, (fun k hk => ((List.mem_append.1 hk).elim (fun h => (List.mem_append.2 (.inl h))) (fun h => (List.mem_append.2 (.inr (List.mem_append.2 (.inl h)))))))⟩)
theorem m_s_l10Draw_ok (w0 : Base Ψ Φ [[pb0]].flatten) (p0 : Tl1Cur) (ph0_0 : RSl (RI .u8) 1 Ψ pG0_0 pv0_0 p0.b) (pp0 : Φ pb0 = some (.cells #[pv0_0, iV p0.i, iV p0.h] 107 (0, 0))) {r : TDef × Tl1Cur} (h : m_s_l10Draw N p0 = some r) :
  Calls prog 62 [pQ pb0].toArray w0.w (PostG Φ w0.w [[pb0]].flatten (fun Φ' Fs v => ∃ (sr_0_0 : Value) (Dr_0_0 : List Nat), v = .agg [.string r.1.Name, sr_0_0].toArray ∧ Fs = [ob sr_0_0, Dr_0_0, [pb0]] ∧ OSl OTRule 28 5 Φ' Dr_0_0 sr_0_0 r.1.Rules ∧ r.2.b = p0.b ∧ Φ' pb0 = some (.cells #[pv0_0, iV r.2.i, iV r.2.h] 107 (0, 0)))) := by
 refine eL func62 rfl ntmps62 rfl (L := [[pb0]]) w0 (fun hF => ?_)
 unfold m_s_l10Draw at h
 refine sr <| lnz Zr_38 rfl fun b_1 => arr 4 [] rfl ?_
 have rc1 : RC RS 1 Φ ([[], [], []] : List (List Nat)) [.string (⟨#[102, 108, 111, 119]⟩ : ByteArray), .string (⟨#[115, 104, 105, 112]⟩ : ByteArray), .string (⟨#[120]⟩ : ByteArray)] ([(⟨#[102, 108, 111, 119]⟩ : ByteArray), (⟨#[115, 104, 105, 112]⟩ : ByteArray), (⟨#[120]⟩ : ByteArray)] : List ByteArray) := RC.cons (c := [.string (⟨#[102, 108, 111, 119]⟩ : ByteArray)]) (cells := [.string (⟨#[115, 104, 105, 112]⟩ : ByteArray), .string (⟨#[120]⟩ : ByteArray)]) ⟨rfl, rfl⟩ rfl (RC.cons (c := [.string (⟨#[115, 104, 105, 112]⟩ : ByteArray)]) (cells := [.string (⟨#[120]⟩ : ByteArray)]) ⟨rfl, rfl⟩ rfl (RC.cons (c := [.string (⟨#[120]⟩ : ByteArray)]) (cells := []) ⟨rfl, rfl⟩ rfl (RC.nil _ _ _)))
 refine le' (e_lit (vs := [(0, .string (⟨#[102, 108, 111, 119]⟩ : ByteArray)), (1, .string (⟨#[115, 104, 105, 112]⟩ : ByteArray)), (2, .string (⟨#[120]⟩ : ByteArray))]) (C := #[.string (⟨#[102, 108, 111, 119]⟩ : ByteArray), .string (⟨#[115, 104, 105, 112]⟩ : ByteArray), .string (⟨#[120]⟩ : ByteArray)]) RS.lasts Sl_68 Zr_9 rfl rfl rfl rfl (fill_made MC_9_3 (fill_cons (C' := [.string (⟨#[102, 108, 111, 119]⟩ : ByteArray), .string ⟨#[]⟩, .string ⟨#[]⟩]) rfl rfl rfl rfl rfl (fill_cons (C' := [.string (⟨#[102, 108, 111, 119]⟩ : ByteArray), .string (⟨#[115, 104, 105, 112]⟩ : ByteArray), .string ⟨#[]⟩]) rfl rfl rfl rfl rfl (fill_cons (C' := [.string (⟨#[102, 108, 111, 119]⟩ : ByteArray), .string (⟨#[115, 104, 105, 112]⟩ : ByteArray), .string (⟨#[120]⟩ : ByteArray)]) rfl rfl rfl rfl rfl (fill_nil))))) rfl rc1 rfl (by simpa using Kw.nil)) rfl ?_
 rintro v1 Φ_1 D1 ⟨fr1, h1⟩
 replace h1 : OSl RS 9 1 Φ_1 [] v1 ([(⟨#[102, 108, 111, 119]⟩ : ByteArray), (⟨#[115, 104, 105, 112]⟩ : ByteArray), (⟨#[120]⟩ : ByteArray)] : List ByteArray) := by simpa using h1
 replace pp0 := fr1 _ _ (by simp) pp0
 refine kcb [1] h rfl rfl rfl rfl (fun b ap z q => m_s_l1Str_ok N b p0 ([(⟨#[102, 108, 111, 119]⟩ : ByteArray), (⟨#[115, 104, 105, 112]⟩ : ByteArray), (⟨#[120]⟩ : ByteArray)] : List ByteArray) (ph0_0.y z) pp0 (h1.rsl.x (Dj.app (ap.q 0 rfl) dN)) q) ?_
 rintro x1 h v2 Φ_2 F1 ⟨ap1, fr2, rfl, rfl, e1, h2⟩
 refine lq (q_build (vs := [(0, .string x1.1)]) (C := #[.string x1.1, .slice none 0 0]) Pl_38 Zr_38 rfl (fill_cons (C' := [.string x1.1, .slice none 0 0]) rfl rfl rfl rfl rfl (fill_nil))) rfl <| lnz Zr_38 rfl fun b_2 => soN 0 Sz_38 rfl ⟨rfl, rfl, trivial⟩ rfl ?_
 refine en <| sr ?_
 have rc2 : RC RS 1 Φ_2 ([[], [], [], []] : List (List Nat)) [.string (⟨#[114, 49]⟩ : ByteArray), .string (⟨#[114, 50]⟩ : ByteArray), .string (⟨#[114, 51]⟩ : ByteArray), .string (⟨#[114, 52]⟩ : ByteArray)] ([(⟨#[114, 49]⟩ : ByteArray), (⟨#[114, 50]⟩ : ByteArray), (⟨#[114, 51]⟩ : ByteArray), (⟨#[114, 52]⟩ : ByteArray)] : List ByteArray) := RC.cons (c := [.string (⟨#[114, 49]⟩ : ByteArray)]) (cells := [.string (⟨#[114, 50]⟩ : ByteArray), .string (⟨#[114, 51]⟩ : ByteArray), .string (⟨#[114, 52]⟩ : ByteArray)]) ⟨rfl, rfl⟩ rfl (RC.cons (c := [.string (⟨#[114, 50]⟩ : ByteArray)]) (cells := [.string (⟨#[114, 51]⟩ : ByteArray), .string (⟨#[114, 52]⟩ : ByteArray)]) ⟨rfl, rfl⟩ rfl (RC.cons (c := [.string (⟨#[114, 51]⟩ : ByteArray)]) (cells := [.string (⟨#[114, 52]⟩ : ByteArray)]) ⟨rfl, rfl⟩ rfl (RC.cons (c := [.string (⟨#[114, 52]⟩ : ByteArray)]) (cells := []) ⟨rfl, rfl⟩ rfl (RC.nil _ _ _))))
 refine le' (e_lit (vs := [(0, .string (⟨#[114, 49]⟩ : ByteArray)), (1, .string (⟨#[114, 50]⟩ : ByteArray)), (2, .string (⟨#[114, 51]⟩ : ByteArray)), (3, .string (⟨#[114, 52]⟩ : ByteArray))]) (C := #[.string (⟨#[114, 49]⟩ : ByteArray), .string (⟨#[114, 50]⟩ : ByteArray), .string (⟨#[114, 51]⟩ : ByteArray), .string (⟨#[114, 52]⟩ : ByteArray)]) RS.lasts Sl_68 Zr_9 rfl rfl rfl rfl (fill_made MC_9_4 (fill_cons (C' := [.string (⟨#[114, 49]⟩ : ByteArray), .string ⟨#[]⟩, .string ⟨#[]⟩, .string ⟨#[]⟩]) rfl rfl rfl rfl rfl (fill_cons (C' := [.string (⟨#[114, 49]⟩ : ByteArray), .string (⟨#[114, 50]⟩ : ByteArray), .string ⟨#[]⟩, .string ⟨#[]⟩]) rfl rfl rfl rfl rfl (fill_cons (C' := [.string (⟨#[114, 49]⟩ : ByteArray), .string (⟨#[114, 50]⟩ : ByteArray), .string (⟨#[114, 51]⟩ : ByteArray), .string ⟨#[]⟩]) rfl rfl rfl rfl rfl (fill_cons (C' := [.string (⟨#[114, 49]⟩ : ByteArray), .string (⟨#[114, 50]⟩ : ByteArray), .string (⟨#[114, 51]⟩ : ByteArray), .string (⟨#[114, 52]⟩ : ByteArray)]) rfl rfl rfl rfl rfl (fill_nil)))))) rfl rc2 rfl (by simpa using Kw.nil)) rfl ?_
 rintro v3 Φ_3 D2 ⟨fr3, h3⟩
 replace h3 : OSl RS 9 1 Φ_3 [] v3 ([(⟨#[114, 49]⟩ : ByteArray), (⟨#[114, 50]⟩ : ByteArray), (⟨#[114, 51]⟩ : ByteArray), (⟨#[114, 52]⟩ : ByteArray)] : List ByteArray) := by simpa using h3
 replace h2 := fr3 _ _ (by simp) h2
 refine art 8 [] rfl <| wtS <| wt0 ?_
 have k1 := OSl.nil OTRule 28 5 Φ_3
 refine lin (σ := Hp × (List TRule) × Value × List Nat × Int × Int × Int) (fun s => [(0, pQ pb0), (2, pQ b_1), (3, pQ b_2), (4, v3), (5, iV s.2.2.2.2.1)]) (fun s => St w0 s.1 [(b_2, .cells #[.string x1.1, s.2.2.1] 38 (0, 0)), (b_1, .cells #[.string (⟨#[]⟩ : ByteArray), .slice none 0 0] 38 (0, 0))] [s.2.2.2.1, ob s.2.2.1, ob v3, [pb0]]) (fun m s => m_s_l10Draw_l1 N p0 x1 m s.2.1 s.2.2.2.2.1 s.2.2.2.2.2.1 s.2.2.2.2.2.2 = some r ∧ (OSl RS 9 1 s.1 [] v3 ([(⟨#[114, 49]⟩ : ByteArray), (⟨#[114, 50]⟩ : ByteArray), (⟨#[114, 51]⟩ : ByteArray), (⟨#[114, 52]⟩ : ByteArray)] : List ByteArray)) ∧ (OSl OTRule 28 5 s.1 s.2.2.2.1 s.2.2.1 s.2.1) ∧ (s.1 pb0 = some (.cells #[pv0_0, iV s.2.2.2.2.2.1, iV s.2.2.2.2.2.2] 107 (0, 0)))) (Φ_3, ([] : List TRule), (.slice none 0 0), [], 0, x1.2.i, x1.2.h) N ⟨h, h3, k1, h2⟩ (sx [0, 0, 0, 0] [0, 0]) (fun n1 ih1 s hm => ?_)
 obtain ⟨Φ_4, s1, u1, D3, s2, s3, s4⟩ := s
 obtain ⟨h, h3, k2, k3⟩ := hm
 dsimp only at h h3 k2 k3 ⊢
 unfold m_s_l10Draw_l1 at h
 refine atr 5 [] rfl <| kcb [3] h rfl rfl rfl rfl (fun b ap z q => m_s_l1Below_ok N b (⟨p0.b, s3, s4⟩ : Tl1Cur) 4 (ph0_0.y z) k3 q) ?_
 rintro x2 h v4 Φ_5 F2 ⟨ap2, fr4, rfl, rfl, e2, h4⟩
 replace h3 := h3.fr fr4 (ap2.q 2 rfl) dN
 replace k2 := k2.fr fr4 (ap2.q 1 rfl) (ap2.q 0 rfl)
 refine arr 3 [] rfl ?_
 obtain ⟨b3, hb_1, h⟩ := bs h
 refine WL.cutN 3 [(19, .bool b3), (0, pQ pb0), (2, pQ b_1), (3, pQ b_2), (4, v3), (5, iV s2)] ?_ (fun K => ?_)
 rotate_left
 ·refine sp 16 hb_1 rfl (fun hb_1 => ?_) fun hb_1 => ?_
  ·refine arr 3 [] rfl ?_
   cases hb_1
   exact ku K
  ·refine arr 3 [] rfl ?_
   cases hb_1
   exact ku K
 refine en ?_
 refine ch h rfl ?_ ?_ <;> intro h
 ·refine att 3 [] rfl <| WT.mix (Kn w0 Φ_5 (ob v3) [(b_2, .cells #[.string x1.1, u1] 38 (0, 0)), (b_1, .cells #[.string (⟨#[]⟩ : ByteArray), .slice none 0 0] 38 (0, 0))]) (fun i => match i with | 11 => false | _ => true) mixed (fun _ h => h.drew) <| mq 0 rfl (by kernel_rfl) (kn Kf.id (ai2 0 1 rfl rfl)) (q_fieldAddr Fld_38_1 rfl) rfl <| mq 1 rfl (by kernel_rfl) (kn Kf.id (ai2 0 1 rfl rfl)) (q_load1 T1_36 rfl (fun w1 hw => hw.rgO (i := 0) rfl 1 1 [u1] rfl)) rfl <| ma 2 rfl (by kernel_rfl) (kn Kf.id (ai2 0 1 rfl rfl)) rfl <| ma 3 rfl (by kernel_rfl) (kn Kf.id (ai2 0 1 rfl rfl)) rfl ?_
  refine ma 4 rfl (by kernel_rfl) (kn Kf.id (ai2 0 1 rfl rfl)) rfl ?_
  obtain ⟨x3, hx3, h⟩ := bs h
  obtain ⟨cs1, F3, -, g1, hb1, hs1, r1⟩ := h3.elS (idx_some hx3).2.2
  obtain ⟨rfl, -⟩ := r1
  refine mq 5 rfl (by kernel_rfl) (kn Kf.id (ai2 0 1 rfl rfl)) (q_indexAddr Sl_68 rfl rfl h3.rsl hx3) rfl <| mq 6 rfl (by kernel_rfl) (kn Kf.id (ai2 0 1 rfl rfl)) (q_load1 T1_9 rfl (fun w1 hw => hw.rg hb1 (g1.of_eq 0 1 rfl rfl : rg _ _ _ [.string x3]))) rfl ?_
  obtain ⟨x4, hx4, h⟩ := bs h
  refine WM.one 7 (by kernel_rfl) (mc rfl (fun _ v Φx D w1 hq hw => Kn.of (Kf.id.st hq.2.1 (hq.1.r (i := 2) rfl)) (ai2 0 1 rfl rfl) hw) (k_call (js := [0]) (R := [D3, ob u1, ob v3]) Fun_73 rfl rfl (fun w1 hw ap hl => m_s_l9Draw_ok N (bx hw ap hl) (⟨p0.b, x2.2.i, x2.2.h⟩ : Tl1Cur) x3 (ph0_0.y (hw.uo ap)) h4  hx4)) rfl ?_)
  rintro v5 Φ_6 F4 ⟨ap3, fr5, v6, D4, v7, v8, D5, rfl, rfl, h5, h6, h7, e3, h8⟩
  replace h3 := h3.fr fr5 (ap3.q 2 rfl) dN
  replace k2 := k2.fr fr5 (ap3.q 1 rfl) (ap3.q 0 rfl)
  have rc3 : RC OTRule 5 Φ_6 ([(ob v6 ++ D4) ++ ((ob v7 ++ []) ++ ((ob v8 ++ D5)))] : List (List Nat)) [.string x4.1.Name, iV x4.1.Sal, v6, v7, v8] ([x4.1] : List TRule) := RC.cons (c := [.string x4.1.Name, iV x4.1.Sal, v6, v7, v8]) (cells := []) ⟨v6, D4, v7, v8, D5, rfl, rfl, h5, h6, h7⟩ rfl (RC.nil _ _ _)
  have kf1 := (Kf.id (F := (ob v3)) : Kf Φ_5 _ _).st fr5 (ap3.q 2 rfl)
  refine WM.one 8 (by kernel_rfl) (me rfl (fun _ v Φx D w1 hq hw => Kn.of (kf1.se hq.1) (ai2 0 1 rfl rfl) hw) (e_lit (vs := [(0, .agg [.string x4.1.Name, iV x4.1.Sal, v6, v7, v8].toArray)]) (C := #[.string x4.1.Name, iV x4.1.Sal, v6, v7, v8]) OTRule.lasts Sl_36 Zr_28 rfl rfl rfl rfl (fill_made MC_28_1 (fill_cons (C' := [.string x4.1.Name, iV x4.1.Sal, v6, v7, v8]) rfl rfl rfl rfl rfl (fill_nil))) rfl rc3 rfl (RC.kn OTRule.knows rc3)) rfl ?_)
  rintro v9 Φ_7 D6 ⟨fr6, h9⟩
  replace h9 : OSl OTRule 28 5 Φ_7 ((ob v6 ++ D4) ++ ((ob v7 ++ []) ++ ((ob v8 ++ D5)))) v9 ([x4.1] : List TRule) := by simpa [List.append_assoc] using h9
  replace h3 := h3.f0 fr6
  replace k2 := k2.f0 fr6
  replace h8 := fr6 _ _ (by simp) h8
  refine WM.conv (S' := St w0 Φ_7 [(b_2, .cells #[.string x1.1, u1] 38 (0, 0)), (b_1, .cells #[.string (⟨#[]⟩ : ByteArray), .slice none 0 0] 38 (0, 0))] [((ob v6 ++ D4) ++ ((ob v7 ++ []) ++ ((ob v8 ++ D5)))), ob v9, [pb0], D3, ob u1, ob v3]) (fun w1 hw => hw.merge (js := [1, 1, 1, 1, 1]) rfl (SP.eq (by simp [List.append_assoc, ob_nil]))) ?_
  obtain ⟨x5, hx5, h⟩ := bs h
  have kf2 := kf1.se fr6
  refine WM.one 9 (by kernel_rfl) (me rfl (fun _ v Φx D w1 hq hw => Kn.of (kf2.st hq.1.2 (hq.1.1.r (i := 4) rfl)) (ai2 0 1 rfl rfl) hw) (e_appO OTRule.lasts OTRule.one Sl_36 Ei_28 rfl rfl rfl rfl rfl (js := [4]) (Rr := [((ob v6 ++ D4) ++ ((ob v7 ++ []) ++ ((ob v8 ++ D5)))), ob v9, [pb0], D3, ob v3]) rfl k2 h9 (fun ap => ap.q 3 rfl) (fun ap => ap.q 0 rfl) hx5) rfl ?_)
  rintro v10 Φ_8 D7 ⟨⟨ap4, fr7⟩, h10⟩
  replace h3 := h3.fr fr7 (ap4.q 4 rfl) dN
  replace h8 := fr7 _ _ ((ap4.q 2 rfl) _ (by simp)) h8
  refine WM.conv (S' := St w0 Φ_8 [(b_2, .cells #[.string x1.1, u1] 38 (0, 0)), (b_1, .cells #[.string (⟨#[]⟩ : ByteArray), .slice none 0 0] 38 (0, 0))] [(D3 ++ ((ob v6 ++ D4) ++ ((ob v7 ++ []) ++ ((ob v8 ++ D5))))), ob v10, ob v9, [pb0], ob v3]) (fun w1 hw => hw.merge (js := [4, 1]) rfl (SP.eq (by simp))) ?_
  have kf3 := kf2.st fr7 (ap4.q 4 rfl)
  refine mq 10 rfl (by kernel_rfl) (kn kf3 (ai2 0 1 rfl rfl)) (q_fieldAddr Fld_38_1 rfl) rfl ?_
  refine on1 11 (ms1 0 rfl nk Sz_36 rfl h10.one ?_)
  refine WM.nil (by kernel_rfl) <| att 6 [] rfl ?_
  exact lb [0, 0, 2, 1] [0, 0] (ih1 (_, _, _, _, _, _, _) ⟨h, h3, h10, h8⟩)
 refine atr 4 [2] rfl <| soN 1 Sz_38 rfl ⟨rfl, k2.one, trivial⟩ rfl ?_
 refine en ?_
 exact rtg [2, 1, 0] hF (resOk.one (rv_cell Tn_38 rfl (fun w1 hw => hw.rgO (i := 1) rfl 0 2 [.string x1.1, u1] rfl) rfl)) rfl (by cases h; exact fun w1 hw => ⟨u1, D3, rfl, rfl, k2, rfl, h4⟩)
theorem m_s_l10Any_ok (w0 : Base Ψ Φ [[pb0]].flatten) (p0 : Tl1Cur) (ph0_0 : RSl (RI .u8) 1 Ψ pG0_0 pv0_0 p0.b) (pp0 : Φ pb0 = some (.cells #[pv0_0, iV p0.i, iV p0.h] 107 (0, 0))) {r : TDef × Tl1Cur} (h : m_s_l10Any N p0 = some r) :
  Calls prog 50 [pQ pb0].toArray w0.w (PostG Φ w0.w [[pb0]].flatten (fun Φ' Fs v => ∃ (sr_0_0 : Value) (Dr_0_0 : List Nat) (X : List Nat), v = .agg [.string r.1.Name, sr_0_0].toArray ∧ Fs = [ob sr_0_0, [pb0], X] ∧ OSl RTRule 28 5 Φ' Dr_0_0 sr_0_0 r.1.Rules ∧ (∀ k ∈ Dr_0_0, k ∈ X) ∧ r.2.b = p0.b ∧ Φ' pb0 = some (.cells #[pv0_0, iV r.2.i, iV r.2.h] 107 (0, 0)))) := by
 refine eL func50 rfl ntmps50 rfl (L := [[pb0]]) w0 (fun hF => ?_)
 unfold m_s_l10Any at h
 refine sr <| lnz Zr_38 rfl fun b_1 => arr 4 [] rfl <| kcb [0] h rfl rfl rfl rfl (fun b ap z q => m_s_l10Draw_ok N b p0 (ph0_0.y z) pp0 q) ?_
 rintro x1 h v1 Φ_1 F1 ⟨ap1, fr1, v2, D1, rfl, rfl, h1, e1, h2⟩
 refine lnz Zr_38 rfl fun b_2 => soN 0 Sz_38 rfl ⟨rfl, h1.one, trivial⟩ rfl ?_
 refine arr 5 [] rfl <| kcb [2] h rfl rfl rfl rfl (fun b ap z q => m_s_l1Below_ok N b (⟨p0.b, x1.2.i, x1.2.h⟩ : Tl1Cur) 10 (ph0_0.y z) h2 q) ?_
 rintro x2 h v3 Φ_2 F2 ⟨ap2, fr2, rfl, rfl, e2, h3⟩
 replace h1 := h1.fr fr2 (ap2.q 0 rfl) (ap2.q 1 rfl)
 refine art 7 [] rfl <| wt0 ?_
 replace h1 := h1.gives OTRule.gives
 refine cut (σ := Hp × List Nat × (List TRule) × Value × List Nat × Int × Int × ByteArray) (fun s => [(2, pQ b_1), (3, pQ b_2)]) (fun s => St w0 s.1 [(b_2, .cells #[.string s.2.2.2.2.2.2.2, s.2.2.2.1] 38 (0, 0)), (b_1, .cells #[.string (⟨#[]⟩ : ByteArray), .slice none 0 0] 38 (0, 0))] [s.2.1, [pb0], ob s.2.2.2.1, D1]) (fun s => m_s_l10Any_j1 N p0 s.2.2.1 s.2.2.2.2.2.1 s.2.2.2.2.2.2.1 s.2.2.2.2.2.2.2 = some r ∧ (OSl RTRule 28 5 s.1 s.2.2.2.2.1 s.2.2.2.1 s.2.2.1) ∧ (∀ k ∈ s.2.2.2.2.1, k ∈ (D1 ++ s.2.1)) ∧ (s.1 pb0 = some (.cells #[pv0_0, iV s.2.2.2.2.2.1, iV s.2.2.2.2.2.2.1] 107 (0, 0)))) (fun s hm => ?_) (fun K => ?_)
 ·clear h
  obtain ⟨Φ_3, X1, s1, u1, D2, s2, s3, s4⟩ := s
  obtain ⟨h, k1, i1, k2⟩ := hm
  dsimp only at h k1 i1 k2 ⊢
  unfold m_s_l10Any_j1 at h
  refine atr 4 [2] rfl <| soN 1 Sz_38 rfl ⟨rfl, k1.one, trivial⟩ rfl ?_
  refine en ?_
  refine WT.ret hF (resOk.one (rv_cell Tn_38 rfl (fun w1 hw => hw.rgO (i := 1) rfl 0 2 [.string s4, u1] rfl) rfl)) (fun w1 hw => ?_)
  cases h
  replace hw := hw.merge (js := [3, 0]) (F := [D1, X1].flatten) rfl (SP.eq (by simp))
  refine postG_of_St (js := [2, 1, 0]) hw rfl ⟨u1, D2, [D1, X1].flatten, rfl, rfl, k1, (fun k hk => ((List.mem_append.1 (i1 k hk)).elim (fun h => (List.mem_flatten.2 ⟨D1, by simp, h⟩)) (fun h => (List.mem_flatten.2 ⟨X1, by simp, h⟩)))), rfl, k2⟩
 refine ch h rfl ?_ ?_ <;> intro h
 ·refine atr 2 [] rfl ?_
  have rc1 : RC RS 1 Φ_2 ([[], []] : List (List Nat)) [.string (⟨#[]⟩ : ByteArray), .string (⟨#[65]⟩ : ByteArray)] ([(⟨#[]⟩ : ByteArray), (⟨#[65]⟩ : ByteArray)] : List ByteArray) := RC.cons (c := [.string (⟨#[]⟩ : ByteArray)]) (cells := [.string (⟨#[65]⟩ : ByteArray)]) ⟨rfl, rfl⟩ rfl (RC.cons (c := [.string (⟨#[65]⟩ : ByteArray)]) (cells := []) ⟨rfl, rfl⟩ rfl (RC.nil _ _ _))
  refine le' (e_lit (vs := [(0, .string (⟨#[]⟩ : ByteArray)), (1, .string (⟨#[65]⟩ : ByteArray))]) (C := #[.string (⟨#[]⟩ : ByteArray), .string (⟨#[65]⟩ : ByteArray)]) RS.lasts Sl_68 Zr_9 rfl rfl rfl rfl (fill_made MC_9_2 (fill_cons (C' := [.string (⟨#[]⟩ : ByteArray), .string ⟨#[]⟩]) rfl rfl rfl rfl rfl (fill_cons (C' := [.string (⟨#[]⟩ : ByteArray), .string (⟨#[65]⟩ : ByteArray)]) rfl rfl rfl rfl rfl (fill_nil)))) rfl rc1 rfl (by simpa using Kw.nil)) rfl ?_
  rintro v4 Φ_4 D3 ⟨fr3, h4⟩
  replace h4 : OSl RS 9 1 Φ_4 [] v4 ([(⟨#[]⟩ : ByteArray), (⟨#[65]⟩ : ByteArray)] : List ByteArray) := by simpa using h4
  replace h1 := h1.f0 fr3
  replace h3 := fr3 _ _ (by simp) h3
  refine kcb [2] h rfl rfl rfl rfl (fun b ap z q => m_s_l1Str_ok N b (⟨p0.b, x2.2.i, x2.2.h⟩ : Tl1Cur) ([(⟨#[]⟩ : ByteArray), (⟨#[65]⟩ : ByteArray)] : List ByteArray) (ph0_0.y z) h3 (h4.rsl.x (Dj.app (ap.q 0 rfl) dN)) q) ?_
  rintro x3 h v5 Φ_5 F3 ⟨ap3, fr4, rfl, rfl, e3, h5⟩
  replace h1 := h1.fr fr4 (ap3.q 2 rfl) (ap3.q 3 rfl)
  refine lf Fld_38_0 rfl rfl rfl <| so1 0 Sz_9 rfl rfl ?_
  refine en ?_
  exact wo [2, 0, 1, 1] [0, 0] (K (_, _, _, _, _, _, _, _) ⟨h, h1, (fun k hk => (List.mem_append.2 (.inl hk))), h5⟩)
 refine att 5 [] rfl ?_
 refine ch h rfl ?_ ?_ <;> intro h
 ·refine wm [0, 1] [7] rfl <| amm 3 [0, 1, 1, 0, 2] [0, 1] rfl rfl ?_
  obtain ⟨x4, hx4, h⟩ := bs h
  refine WM.one 3 (by kernel_rfl) (mc rfl (fun _ v Φx D w1 hq hw => Kn.of Kf.nil (ai2 0 1 rfl rfl) hw) (k_call (js := [1]) (R := [[], ob v2, D1]) Fun_29 rfl rfl (fun w1 hw ap hl => m_s_l9Any_ok N (bx hw ap hl) (⟨p0.b, x2.2.i, x2.2.h⟩ : Tl1Cur) (ph0_0.y (hw.uo ap)) h3  hx4)) rfl ?_)
  rintro v6 Φ_6 F4 ⟨ap4, fr5, v7, D4, v8, G1, v9, G2, X2, rfl, rfl, h6, i2, h7, i3, h8, i4, e4, h9⟩
  replace h1 := h1.fr fr5 (ap4.q 1 rfl) (ap4.q 2 rfl)
  have rc2 : RC RTRule 5 Φ_6 ([(ob v7 ++ D4) ++ (G1 ++ (G2))] : List (List Nat)) [.string x4.1.Name, iV x4.1.Sal, v7, v8, v9] ([x4.1] : List TRule) := RC.cons (c := [.string x4.1.Name, iV x4.1.Sal, v7, v8, v9]) (cells := []) ⟨v7, (ob v7 ++ D4), v8, G1, v9, G2, rfl, rfl, h6.rsl, h7, h8⟩ rfl (RC.nil _ _ _)
  refine WM.one 4 (by kernel_rfl) (me rfl (fun _ v Φx D w1 hq hw => Kn.of Kf.nil (ai2 0 1 rfl rfl) hw) (e_lit (vs := [(0, .agg [.string x4.1.Name, iV x4.1.Sal, v7, v8, v9].toArray)]) (C := #[.string x4.1.Name, iV x4.1.Sal, v7, v8, v9]) RTRule.lasts Sl_36 Zr_28 rfl rfl rfl rfl (fill_made MC_28_1 (fill_cons (C' := [.string x4.1.Name, iV x4.1.Sal, v7, v8, v9]) rfl rfl rfl rfl rfl (fill_nil))) rfl rc2 rfl (RC.kn RTRule.knows rc2)) rfl ?_)
  rintro v10 Φ_7 D5 ⟨fr6, h10⟩
  replace h10 : OSl RTRule 28 5 Φ_7 ((ob v7 ++ D4) ++ (G1 ++ (G2))) v10 ([x4.1] : List TRule) := by simpa [List.append_assoc] using h10
  replace h1 := h1.f0 fr6
  replace h9 := fr6 _ _ (by simp) h9
  obtain ⟨x6, hx5, h⟩ := bs h
  refine WM.one 5 (by kernel_rfl) (me rfl (fun _ v Φx D w1 hq hw => Kn.of Kf.nil (ai2 0 1 rfl rfl) hw) (e_appO RTRule.lasts RTRule.one Sl_36 Ei_28 rfl rfl rfl rfl rfl (js := [5]) (Rr := [ob v10, ob v7, [pb0], X2, [], D1]) rfl h1 h10 (fun ap => ap.q 5 rfl) (fun ap => (Dj.sub (Dj.app (Dj.app (ap.q 1 rfl) (Dj.sub (ap.q 3 rfl) i2)) (Dj.app (Dj.sub (ap.q 3 rfl) i3) (Dj.sub (ap.q 3 rfl) i4))) (fun k hk => (by simpa [List.append_assoc] using hk : k ∈ ((ob v7 ++ D4) ++ (G1 ++ G2)))))) hx5) rfl ?_)
  rintro v11 Φ_8 D6 ⟨⟨ap5, fr7⟩, h11⟩
  replace h9 := fr7 _ _ ((ap5.q 2 rfl) _ (by simp)) h9
  refine amm 1 [6, 1] [0, 1] rfl rfl ?_
  refine on1 7 (ms1 0 rfl nk Sz_36 rfl h11.one ?_)
  refine WM.nil (by kernel_rfl) <| wtL [([] ++ (ob v7 ++ (X2))), ob v11, ob v10, [pb0], D1] (smg [5, 2, 3] rfl (SP.eq (by simp [List.append_assoc]))) ?_
  exact wo [0, 2, 0, 1] [0, 0] (K (_, _, _, _, _, _, _, _) ⟨h, h11, (fun k hk => ((List.mem_append.1 hk).elim (fun h => (List.mem_append.2 (.inl h))) (fun h => ((List.mem_append.1 ((fun k hk => (by simpa [List.append_assoc] using hk : k ∈ ((ob v7 ++ D4) ++ (G1 ++ G2)))) k h)).elim (fun h => ((List.mem_append.1 h).elim (fun h => (List.mem_append.2 (.inr ((fun k hk => (List.mem_append.2 (.inr (List.mem_append.2 (.inl hk))))) k h)))) (fun h => (List.mem_append.2 (.inr ((fun k hk => (List.mem_append.2 (.inr (List.mem_append.2 (.inr hk))))) k (i2 k h))))))) (fun h => ((List.mem_append.1 h).elim (fun h => (List.mem_append.2 (.inr ((fun k hk => (List.mem_append.2 (.inr (List.mem_append.2 (.inr hk))))) k (i3 k h))))) (fun h => (List.mem_append.2 (.inr ((fun k hk => (List.mem_append.2 (.inr (List.mem_append.2 (.inr hk))))) k (i4 k h))))))))))), h9⟩)
 refine att 5 [] rfl ?_
 refine ch h rfl ?_ ?_ <;> intro h
 ·refine WT.mix (Kn w0 Φ_2 (ob v2) [(b_2, .cells #[.string x1.1.Name, v2] 38 (0, 0)), (b_1, .cells #[.string (⟨#[]⟩ : ByteArray), .slice none 0 0] 38 (0, 0))]) (fun i => match i with | 9 => false | _ => true) mixed (fun _ h => h.drew) <| mq 0 rfl (by kernel_rfl) (kn Kf.id (ai2 0 1 rfl rfl)) (q_fieldAddr Fld_38_1 rfl) rfl <| mq 1 rfl (by kernel_rfl) (kn Kf.id (ai2 0 1 rfl rfl)) (q_load1 T1_36 rfl (fun w1 hw => hw.rgO (i := 0) rfl 1 1 [v2] rfl)) rfl <| ma 2 rfl (by kernel_rfl) (kn Kf.id (ai2 0 1 rfl rfl)) rfl <| mq 3 rfl (by kernel_rfl) (kn Kf.id (ai2 0 1 rfl rfl)) (q_fieldAddr Fld_38_1 rfl) rfl ?_
  refine mq 4 rfl (by kernel_rfl) (kn Kf.id (ai2 0 1 rfl rfl)) (q_load1 T1_36 rfl (fun w1 hw => hw.rgO (i := 0) rfl 1 1 [v2] rfl)) rfl ?_
  obtain ⟨x7, hx6, h⟩ := bs h
  obtain ⟨cs1, F5, -, g1, hb1, hs1, r1⟩ := h1.elS (idx_some hx6).2.2
  obtain ⟨v12, G3, v13, G4, v14, G5, rfl, rfl, h12, h13, h14⟩ := r1
  refine mq 5 rfl (by kernel_rfl) (kn Kf.id (ai2 0 1 rfl rfl)) (q_indexAddr Sl_36 rfl rfl h1.rsl hx6) rfl <| mq 6 rfl (by kernel_rfl) (kn Kf.id (ai2 0 1 rfl rfl)) (q_loadN Tn_28 rfl (fun w1 hw => hw.rg hb1 (g1.of_eq 0 5 rfl rfl : rg _ _ _ [.string x7.Name, iV x7.Sal, v12, v13, v14])) rfl) rfl ?_
  obtain ⟨x8, hx7, h⟩ := bs h
  refine WM.one 7 (by kernel_rfl) (mc rfl (fun _ v Φx D w1 hq hw => Kn.of (Kf.id.st hq.2.1 (hq.1.r (i := 1) rfl)) (ai2 0 1 rfl rfl) hw) (k_call (js := [1]) (R := [[], ob v2, D1]) Fun_75 rfl rfl (fun w1 hw ap hl => m_s_l9Bend_ok N (bx hw ap hl) (⟨p0.b, x2.2.i, x2.2.h⟩ : Tl1Cur) x7 (ph0_0.y (hw.uo ap)) h3 (h12.x (Dj.sub (ap.q 2 rfl) (fun k h => hs1 k (List.mem_append.2 (.inl h))))) (h13.x (Dj.sub (ap.q 2 rfl) (fun k h => hs1 k (List.mem_append.2 (.inr (List.mem_append.2 (.inl h))))))) (h14.x (Dj.sub (ap.q 2 rfl) (fun k h => hs1 k (List.mem_append.2 (.inr (List.mem_append.2 (.inr h)))))))  hx7)) rfl ?_)
  rintro v15 Φ_9 F6 ⟨ap6, fr8, v16, D7, v17, G6, v18, G7, X3, rfl, rfl, h15, i5, h16, i6, h17, i7, e5, h18⟩
  replace h1 := h1.fr fr8 (ap6.q 1 rfl) (ap6.q 2 rfl)
  obtain ⟨x10, hx8, h⟩ := bs h
  obtain ⟨cs2, F7, -, g2, hb2, hs2, r2⟩ := h1.elS (idx_some hx8).2.2
  obtain ⟨v19, G8, v20, G9, v21, G10, rfl, rfl, h19, h20, h21⟩ := r2
  have kf1 := (Kf.id (F := (ob v2)) : Kf Φ_2 _ _).st fr8 (ap6.q 1 rfl)
  refine mq 8 rfl (by kernel_rfl) (kn kf1 (ai2 0 1 rfl rfl)) (q_indexAddr Sl_36 rfl rfl h1.rsl hx8) rfl ?_
  have h23 := h15.rsl
  have r3 : RTRule Φ_9 ((ob v16 ++ D7) ++ (G6 ++ (G7))) [.string x8.1.Name, iV x8.1.Sal, v16, v17, v18] x8.1 := ⟨v16, (ob v16 ++ D7), v17, G6, v18, G7, rfl, rfl, h23, h16, h17⟩
  refine WM.one 9 (by kernel_rfl) (mu rfl (fun hc => by cases hc) (u_setO (js := [4]) (Rr := [ob v16, [pb0], X3, [], D1]) (vs := [.string x8.1.Name, iV x8.1.Sal, v16, v17, v18]) (x' := x8.1) RTRule.lasts Sz_28 rfl rfl rfl rfl ⟨rfl, rfl, h23.one, h16.one, h17.one, trivial⟩ rfl h1 (idx_lt hx8) r3 (RTRule.knows _ _ _ _ r3) (fun ap => ap.q 4 rfl) (fun ap => by simpa using (Dj.app (Dj.app (ap.q 0 rfl) (Dj.sub (Dj.app (ap.q 2 rfl) (Dj.sub (ap.q 4 rfl) (fun k h => hs1 k (List.mem_append.2 (.inl h))))) i5)) (Dj.app (Dj.sub (Dj.app (ap.q 2 rfl) (Dj.sub (ap.q 4 rfl) (fun k h => hs1 k (List.mem_append.2 (.inr (List.mem_append.2 (.inl h))))))) i6) (Dj.sub (Dj.app (ap.q 2 rfl) (Dj.sub (ap.q 4 rfl) (fun k h => hs1 k (List.mem_append.2 (.inr (List.mem_append.2 (.inr h))))))) i7))))) rfl ?_)
  rintro Φ_10 D8 ⟨⟨ap7, fr9⟩, sp1, h22⟩
  replace h18 := fr9 _ _ ((ap7.q 1 rfl) _ (by simp)) h18
  refine WM.nil (by kernel_rfl) <| wtL [([] ++ (ob v16 ++ (X3))), ob v2, [pb0], D1] (smg [4, 1, 2] rfl (SP.eq (by simp [List.append_assoc]))) ?_
  exact wo [0, 1, 0, 0] [0, 0] (K (_, _, _, _, _, _, _, _) ⟨h, h22, (fun k hk => ((List.mem_append.1 ((fun k hk => (by simpa [List.append_assoc] using sp1.mem hk : k ∈ (D1 ++ ((ob v16 ++ D7) ++ (G6 ++ G7))))) k hk)).elim (fun h => (List.mem_append.2 (.inl h))) (fun h => ((List.mem_append.1 h).elim (fun h => ((List.mem_append.1 h).elim (fun h => (List.mem_append.2 (.inr ((fun k hk => (List.mem_append.2 (.inr (List.mem_append.2 (.inl hk))))) k h)))) (fun h => ((List.mem_append.1 (i5 k h)).elim (fun h => (List.mem_append.2 (.inr ((fun k hk => (List.mem_append.2 (.inr (List.mem_append.2 (.inr hk))))) k h)))) (fun h => (List.mem_append.2 (.inl ((fun k h => hs1 k (List.mem_append.2 (.inl h))) k h)))))))) (fun h => ((List.mem_append.1 h).elim (fun h => ((List.mem_append.1 (i6 k h)).elim (fun h => (List.mem_append.2 (.inr ((fun k hk => (List.mem_append.2 (.inr (List.mem_append.2 (.inr hk))))) k h)))) (fun h => (List.mem_append.2 (.inl ((fun k h => hs1 k (List.mem_append.2 (.inr (List.mem_append.2 (.inl h))))) k h)))))) (fun h => ((List.mem_append.1 (i7 k h)).elim (fun h => (List.mem_append.2 (.inr ((fun k hk => (List.mem_append.2 (.inr (List.mem_append.2 (.inr hk))))) k h)))) (fun h => (List.mem_append.2 (.inl ((fun k h => hs1 k (List.mem_append.2 (.inr (List.mem_append.2 (.inr h))))) k h)))))))))))), h18⟩)
 refine att 5 [] rfl ?_
 refine ch h rfl ?_ ?_ <;> intro h
 ·refine atr 3 [1, 0] rfl ?_
  obtain ⟨x11, hx9, h⟩ := bs h
  refine lq (q_slH Sl_36 rfl rfl h1.rsl hx9) rfl ?_
  obtain ⟨D9, h24, sp2, e7⟩ := h1.pre hx9
  refine WL.conv (S' := St w0 Φ_2 [(b_2, .cells #[.string x1.1.Name, v2] 38 (0, 0)), (b_1, .cells #[.string (⟨#[]⟩ : ByteArray), .slice none 0 0] 38 (0, 0))] [[], [pb0], ob (slc v2 0 (0 : Int).toNat 5), D1]) (fun w1 hw => by simp only [e7]; exact hw) <| lf Fld_38_1 rfl rfl rfl <| so1 0 Sz_36 rfl h24.one ?_
  refine en ?_
  exact wo [0, 0, 0, 0] [0, 0] (K (_, _, _, _, _, _, _, _) ⟨h, h24, (fun k hk => (List.mem_append.2 (.inl ((fun k h => sp2.mem h) k hk)))), h3⟩)
 refine WT.skip ?_
 exact wo [0, 0, 0, 0] [0, 0] (K (_, _, _, _, _, _, _, _) ⟨h, h1, (fun k hk => (List.mem_append.2 (.inl hk))), h3⟩)
theorem m_s_DrawDefText_ok (w0 : Base Ψ Φ []) (p0 : (List Int)) (ph0 : RSl (RI .u8) 1 Ψ pG0 pv0 p0) {r : TDef} (h : m_s_DrawDefText N p0 = some r) :
  Calls prog 14 [pv0].toArray w0.w (PostG Φ w0.w [] (fun Φ' Fs v => ∃ (sr_0_0 : Value) (Dr_0_0 : List Nat) (X : List Nat), v = .agg [.string r.Name, sr_0_0].toArray ∧ Fs = [ob sr_0_0, X] ∧ OSl RTRule 28 5 Φ' Dr_0_0 sr_0_0 r.Rules ∧ (∀ k ∈ Dr_0_0, k ∈ X))) := by
 refine eN func14 rfl ntmps14 rfl w0 fun hF => ?_
 unfold m_s_DrawDefText at h
 refine sr <| lnz Zr_38 rfl fun b_1 => arr 4 [] rfl <| kab h rfl rfl rfl (fun b z q => m_s_l1New_ok N b p0 (ph0.y z) q) ?_
 rintro x1 h v1 Φ_1 F1 ⟨ap1, fr1, b_2, v2, G1, rfl, rfl, h1, i1, h2⟩
 refine arr 5 [] rfl <| kcb [0] h rfl rfl rfl rfl (fun b ap z q => m_s_l10Any_ok N b x1 (h1.x (Dj.sub (ap.o ph0.old) i1)) h2 q) ?_
 rintro x2 h v3 Φ_2 F2 ⟨ap2, fr2, v4, D1, X1, rfl, rfl, h3, i2, e1, h4⟩
 refine soN 0 Sz_38 rfl ⟨rfl, h3.one, trivial⟩ rfl ?_
 refine en ?_
 refine WT.ret hF (resOk.one (rv_cell Tn_38 rfl (fun w1 hw => hw.rgO (i := 0) rfl 0 2 [.string x2.1.Name, v4] rfl) rfl)) (fun w1 hw => ?_)
 cases h
 replace hw := hw.merge (js := [2]) (F := [X1].flatten) rfl (SP.eq (by simp))
 refine postG_of_St (js := [1, 0]) hw rfl ⟨v4, D1, [X1].flatten, rfl, rfl, h3, (fun k hk => (List.mem_flatten.2 ⟨X1, by simp, (i2 k hk)⟩))⟩
theorem m_s_l1In_ok  (w0 : Base Ψ Φ []) (p0 : Int) (p1 : Int) (p2 : Int)  {r : Bool} (h : m_s_l1In N p0 p1 p2 = some r) :
  CB w0 prog 41 [iV p0, iV p1, iV p2] (.bool r) := by
 refine eN func41 rfl ntmps41 rfl w0 fun hF => ?_
 unfold m_s_l1In at h
 refine atr 10 [] rfl ?_
 obtain ⟨b1, hb_1, h⟩ := bs h
 refine WL.cutN 4 [(14, .bool b1), (6, .bool false)] ?_ (fun K => ?_)
 rotate_left
 ·refine sp 10 hb_1 rfl (fun hb_1 => ?_) fun hb_1 => ?_
  ·refine arr 4 [] rfl ?_
   cases hb_1
   exact ku K
  ·refine arr 4 [] rfl ?_
   cases hb_1
   exact ku K
 refine la rfl <| en ?_
 exact rt hF h
theorem m_s_l1Letter_ok  (w0 : Base Ψ Φ []) (p0 : Int)  {r : Bool} (h : m_s_l1Letter N p0 = some r) :
  CB w0 prog 91 [.int .u8 p0] (.bool r) := by
 refine eN func91 rfl ntmps91 rfl w0 fun hF => ?_
 unfold m_s_l1Letter at h
 refine atr 7 [] rfl <| lq (q_convI Ik_5 Ik_3 rfl) rfl <| qc h (m_s_l1In_ok N · (wz p0) 97 122 ·) rfl rfl rfl fun x1 h => la rfl ?_
 obtain ⟨b1, hb_1, h⟩ := bs h
 refine WL.cutN 4 [(10, .bool b1), (0, .int .u8 p0), (2, .bool false)] ?_ (fun K => ?_)
 rotate_left
 ·refine sp 6 hb_1 rfl (fun hb_1 => ?_) fun hb_1 => ?_
  ·refine arr 4 [] rfl ?_
   cases hb_1
   exact ku K
  ·refine ly rfl rfl <| la rfl <| ly rfl rfl <| lq (q_convI Ik_5 Ik_3 rfl) rfl <| ly rfl rfl <| qc hb_1 (m_s_l1In_ok N · (wz p0) 48 57 ·) rfl rfl rfl fun x2 hb_1 => la rfl ?_
   cases hb_1
   exact ku K
 refine la rfl ?_
 obtain ⟨b2, hb_2, h⟩ := bs h
 refine WL.cutN 3 [(14, .bool b2), (2, .bool false)] ?_ (fun K => ?_)
 rotate_left
 ·refine sp 11 hb_2 rfl (fun hb_2 => ?_) fun hb_2 => ?_
  ·refine arr 3 [] rfl ?_
   cases hb_2
   exact ku K
  ·refine arr 3 [] rfl ?_
   cases hb_2
   exact ku K
 refine la rfl <| en ?_
 exact rt hF h
theorem m_s_NameOk_ok  (w0 : Base Ψ Φ []) (p0 : ByteArray)  {r : Bool} (h : m_s_NameOk N p0 = some r) :
  CB w0 prog 40 [.string p0] (.bool r) := by
 refine eN func40 rfl ntmps40 rfl w0 fun hF => ?_
 unfold m_s_NameOk at h
 refine att 10 [] rfl ?_
 refine lin (σ := Int) (fun s => [(0, .string p0), (3, iV s)]) (fun s => St w0 Φ [] []) (fun m s => m_s_NameOk_l1 N p0 m s = some r) (0) N h (sx [] []) (fun n1 ih1 s hm => ?_)
 revert hm; revert s; intro s1 hm
 have h : m_s_NameOk_l1 N p0 (n1 + 1) s1 = some r := hm
 show WT _ _ [(0, .string p0), (3, iV s1)] (St w0 Φ [] [])
 unfold m_s_NameOk_l1 at h
 refine atr 5 [] rfl <| lq (q_lenS Str_9 rfl rfl) rfl <| la rfl <| en ?_
 refine ch h rfl ?_ ?_ <;> intro h
 ·refine atr 7 [] rfl ?_
  obtain ⟨y1, hy1, h⟩ := bs h
  refine lq (q_indexS Str_9 rfl rfl hy1) rfl <| qc h (m_s_l1Letter_ok N · (y1.toNat : Int) ·) rfl rfl rfl fun x1 h => arr 2 [] rfl ?_
  obtain ⟨b1, hb_1, h⟩ := bs h
  refine WL.cutN 11 [(26, .bool b1), (0, .string p0), (3, iV s1)] ?_ (fun K => ?_)
  rotate_left
  ·refine sp 15 hb_1 rfl (fun hb_1 => ?_) fun hb_1 => ?_
   ·refine arr 11 [] rfl ?_
    cases hb_1
    exact ku K
   ·refine arr 3 [] rfl ?_
    obtain ⟨b2, hb_2, hb_1⟩ := bs hb_1
    refine WL.cutN 7 [(25, .bool b2), (0, .string p0), (3, iV s1), (15, .bool false)] ?_ (fun K => ?_)
    rotate_left
    ·refine sp 18 hb_2 rfl (fun hb_2 => ?_) fun hb_2 => ?_
     ·refine arr 2 [] rfl <| ly rfl rfl ?_
      obtain ⟨y2, hy2, hb_2⟩ := bs hb_2
      refine lq (q_indexS Str_9 rfl rfl hy2) rfl <| ly rfl rfl <| lq (q_convI Ik_5 Ik_3 rfl) rfl <| ly rfl rfl <| qc hb_2 (m_s_l1In_ok N · (wz (y2.toNat : Int)) 97 122 ·) rfl rfl rfl fun x2 hb_2 => arr 2 [] rfl ?_
      cases hb_2
      exact ku K
     ·refine arr 7 [] rfl ?_
      cases hb_2
      exact ku K
    refine la rfl ?_
    cases hb_1
    exact ku K
  refine en ?_
  refine ch h rfl ?_ ?_ <;> intro h
  ·refine att 4 [] rfl ?_
   exact rt hF h
  refine att 7 [] rfl ?_
  exact lb [] [] (ih1 _ h)
 refine atr 4 [] rfl <| lq (q_lenS Str_9 rfl rfl) rfl <| qc h (m_s_l1In_ok N · (p0.size : Int) 1 12 ·) rfl rfl rfl fun x3 h => la rfl <| en ?_
 exact rt hF h
theorem m_s_l5Large_ok  (w0 : Base Ψ Φ []) (p0 : Int)  {r : Bool} (h : m_s_l5Large N p0 = some r) :
  CB w0 prog 173 [.int .u8 p0] (.bool r) := by
 refine eN func173 rfl ntmps173 rfl w0 fun hF => ?_
 unfold m_s_l5Large at h
 refine atr 7 [] rfl <| lq (q_convI Ik_5 Ik_3 rfl) rfl <| qc h (m_s_l1In_ok N · (wz p0) 65 90 ·) rfl rfl rfl fun x1 h => la rfl <| en ?_
 exact rt hF h
theorem m_s_l5VarOk_ok  (w0 : Base Ψ Φ []) (p0 : ByteArray)  {r : Bool} (h : m_s_l5VarOk N p0 = some r) :
  CB w0 prog 176 [.string p0] (.bool r) := by
 refine eN func176 rfl ntmps176 rfl w0 fun hF => ?_
 unfold m_s_l5VarOk at h
 refine att 10 [] rfl ?_
 refine lin (σ := Int) (fun s => [(0, .string p0), (3, iV s)]) (fun s => St w0 Φ [] []) (fun m s => m_s_l5VarOk_l1 N p0 m s = some r) (0) N h (sx [] []) (fun n1 ih1 s hm => ?_)
 revert hm; revert s; intro s1 hm
 have h : m_s_l5VarOk_l1 N p0 (n1 + 1) s1 = some r := hm
 show WT _ _ [(0, .string p0), (3, iV s1)] (St w0 Φ [] [])
 unfold m_s_l5VarOk_l1 at h
 refine atr 5 [] rfl <| lq (q_lenS Str_9 rfl rfl) rfl <| la rfl <| en ?_
 refine ch h rfl ?_ ?_ <;> intro h
 ·refine atr 7 [] rfl ?_
  obtain ⟨y1, hy1, h⟩ := bs h
  refine lq (q_indexS Str_9 rfl rfl hy1) rfl <| qc h (m_s_l5Large_ok N · (y1.toNat : Int) ·) rfl rfl rfl fun x1 h => arr 2 [] rfl ?_
  obtain ⟨b1, hb_1, h⟩ := bs h
  refine WL.cutN 10 [(25, .bool b1), (0, .string p0), (3, iV s1)] ?_ (fun K => ?_)
  rotate_left
  ·refine sp 15 hb_1 rfl (fun hb_1 => ?_) fun hb_1 => ?_
   ·refine arr 3 [] rfl ?_
    obtain ⟨b2, hb_2, hb_1⟩ := bs hb_1
    refine WL.cutN 6 [(24, .bool b2), (0, .string p0), (3, iV s1), (15, .bool true)] ?_ (fun K => ?_)
    rotate_left
    ·refine sp 18 hb_2 rfl (fun hb_2 => ?_) fun hb_2 => ?_
     ·refine arr 6 [] rfl ?_
      cases hb_2
      exact ku K
     ·refine arr 2 [] rfl <| ly rfl rfl ?_
      obtain ⟨y2, hy2, hb_2⟩ := bs hb_2
      refine lq (q_indexS Str_9 rfl rfl hy2) rfl <| ly rfl rfl <| qc hb_2 (m_s_l1Letter_ok N · (y2.toNat : Int) ·) rfl rfl rfl fun x2 hb_2 => arr 2 [] rfl ?_
      cases hb_2
      exact ku K
    refine la rfl ?_
    cases hb_1
    exact ku K
   ·refine arr 10 [] rfl ?_
    cases hb_1
    exact ku K
  refine en ?_
  refine ch h rfl ?_ ?_ <;> intro h
  ·refine att 4 [] rfl ?_
   exact rt hF h
  refine att 7 [] rfl ?_
  exact lb [] [] (ih1 _ h)
 refine atr 4 [] rfl <| lq (q_lenS Str_9 rfl rfl) rfl <| qc h (m_s_l1In_ok N · (p0.size : Int) 1 12 ·) rfl rfl rfl fun x3 h => la rfl <| en ?_
 exact rt hF h
theorem m_s_l2Plain_ok  (w0 : Base Ψ Φ []) (p0 : ByteArray)  {r : Bool} (h : m_s_l2Plain N p0 = some r) :
  CB w0 prog 177 [.string p0] (.bool r) := by
 refine eN func177 rfl ntmps177 rfl w0 fun hF => ?_
 unfold m_s_l2Plain at h
 refine att 10 [] rfl ?_
 refine lin (σ := Int) (fun s => [(0, .string p0), (3, iV s)]) (fun s => St w0 Φ [] []) (fun m s => m_s_l2Plain_l1 N p0 m s = some r) (0) N h (sx [] []) (fun n1 ih1 s hm => ?_)
 revert hm; revert s; intro s1 hm
 have h : m_s_l2Plain_l1 N p0 (n1 + 1) s1 = some r := hm
 show WT _ _ [(0, .string p0), (3, iV s1)] (St w0 Φ [] [])
 unfold m_s_l2Plain_l1 at h
 refine atr 5 [] rfl <| lq (q_lenS Str_9 rfl rfl) rfl <| la rfl <| en ?_
 refine ch h rfl ?_ ?_ <;> intro h
 ·refine atr 7 [] rfl ?_
  obtain ⟨y1, hy1, h⟩ := bs h
  refine lq (q_indexS Str_9 rfl rfl hy1) rfl <| qc h (m_s_l1Letter_ok N · (y1.toNat : Int) ·) rfl rfl rfl fun x1 h => la rfl <| en ?_
  refine ch h rfl ?_ ?_ <;> intro h
  ·refine att 4 [] rfl ?_
   exact rt hF h
  refine att 7 [] rfl ?_
  exact lb [] [] (ih1 _ h)
 refine atr 4 [] rfl <| lq (q_lenS Str_9 rfl rfl) rfl <| art 3 [] rfl ?_
 exact rt hF h
theorem m_s_ValOk_ok  (w0 : Base Ψ Φ []) (p0 : TVal)  {r : Bool} (h : m_s_ValOk N p0 = some r) :
  CB w0 prog 197 [.agg [iV p0.K, iV p0.N, .string p0.S].toArray] (.bool r) := by
 refine eN func197 rfl ntmps197 rfl w0 fun hF => ?_
 unfold m_s_ValOk at h
 refine sr <| lbx rfl fun b_1 => art 14 [0, 0] rfl ?_
 refine ch h rfl ?_ ?_ <;> intro h
 ·refine atr 4 [1, 0] rfl <| qc h (m_s_l1In_ok N · p0.N (-1000000000) 1000000000 ·) rfl rfl rfl fun x1 h => la rfl ?_
  obtain ⟨b1, hb_1, h⟩ := bs h
  refine WL.cutN 4 [(14, .bool b1), (2, .bool false)] ?_ (fun K => ?_)
  rotate_left
  ·refine sp 10 hb_1 rfl (fun hb_1 => ?_) fun hb_1 => ?_
   ·refine arr 4 [2, 0] rfl ?_
    cases hb_1
    exact ku K
   ·refine arr 4 [] rfl ?_
    cases hb_1
    exact ku K
  refine la rfl <| en ?_
  exact rt hF h
 refine att 5 [] rfl ?_
 refine ch h rfl ?_ ?_ <;> intro h
 ·refine atr 4 [2, 0] rfl <| qc h (m_s_l2Plain_ok N · p0.S ·) rfl rfl rfl fun x2 h => la rfl ?_
  obtain ⟨b2, hb_2, h⟩ := bs h
  refine WL.cutN 4 [(24, .bool b2), (2, .bool false)] ?_ (fun K => ?_)
  rotate_left
  ·refine sp 20 hb_2 rfl (fun hb_2 => ?_) fun hb_2 => ?_
   ·refine arr 4 [1, 0] rfl ?_
    cases hb_2
    exact ku K
   ·refine arr 4 [] rfl ?_
    cases hb_2
    exact ku K
  refine la rfl <| en ?_
  exact rt hF h
 refine att 6 [] rfl ?_
 exact rt hF h
theorem m_s_ArgOk_ok  (w0 : Base Ψ Φ []) (p0 : TArg)  {r : Bool} (h : m_s_ArgOk N p0 = some r) :
  CB w0 prog 152 [.agg [iV p0.K, .string p0.S, iV p0.V.K, iV p0.V.N, .string p0.V.S].toArray] (.bool r) := by
 refine eN func152 rfl ntmps152 rfl w0 fun hF => ?_
 unfold m_s_ArgOk at h
 refine sr <| lbx rfl fun b_1 => arr 6 [2, 3] rfl <| lq (q_build (vs := []) (C := #[iV 0, iV 0, .string (⟨#[]⟩ : ByteArray)]) Pl_58 Zr_58 rfl (fill_nil)) rfl <| lq (q_eqA EqT_58 rfl rfl rfl (r := eqT_TVal p0.V (⟨0, 0, (⟨#[]⟩ : ByteArray)⟩ : TVal)) rfl) rfl <| art 14 [0, 0] rfl ?_
 refine ch h rfl ?_ ?_ <;> intro h
 ·refine atr 4 [1, 0] rfl <| qc h (m_s_l5VarOk_ok N · p0.S ·) rfl rfl rfl fun x1 h => la rfl ?_
  obtain ⟨b1, hb_1, h⟩ := bs h
  refine WL.cutN 2 [(17, .bool b1), (2, .bool false)] ?_ (fun K => ?_)
  rotate_left
  ·refine sp 15 hb_1 rfl (fun hb_1 => ?_) fun hb_1 => ?_
   ·refine arr 2 [] rfl ?_
    cases hb_1
    exact ku K
   ·refine arr 2 [] rfl ?_
    cases hb_1
    exact ku K
  refine la rfl <| en ?_
  exact rt hF h
 refine att 5 [] rfl ?_
 refine ch h rfl ?_ ?_ <;> intro h
 ·refine atr 4 [2, 3] rfl <| qc h (m_s_ValOk_ok N · p0.V ·) rfl rfl rfl fun x2 h => la rfl ?_
  obtain ⟨b2, hb_2, h⟩ := bs h
  refine WL.cutN 4 [(27, .bool b2), (2, .bool false)] ?_ (fun K => ?_)
  rotate_left
  ·refine sp 23 hb_2 rfl (fun hb_2 => ?_) fun hb_2 => ?_
   ·refine arr 4 [1, 0] rfl ?_
    cases hb_2
    exact ku K
   ·refine arr 4 [] rfl ?_
    cases hb_2
    exact ku K
  refine la rfl <| en ?_
  exact rt hF h
 refine att 5 [] rfl ?_
 refine ch h rfl ?_ ?_ <;> intro h
 ·refine atr 6 [1, 0] rfl ?_
  obtain ⟨b3, hb_3, h⟩ := bs h
  refine WL.cutN 2 [(35, .bool b3), (2, .bool false)] ?_ (fun K => ?_)
  rotate_left
  ·refine sp 33 hb_3 rfl (fun hb_3 => ?_) fun hb_3 => ?_
   ·refine arr 2 [] rfl ?_
    cases hb_3
    exact ku K
   ·refine arr 2 [] rfl ?_
    cases hb_3
    exact ku K
  refine la rfl <| en ?_
  exact rt hF h
 refine att 6 [] rfl ?_
 exact rt hF h
theorem m_s_PatOk_ok (w0 : Base Ψ Φ []) (p0 : TPat) (ph0_0 : RSl RTArg 5 Ψ pG0_0 pv0_0 p0.Args) {r : Bool} (h : m_s_PatOk N p0 = some r) :
  CB w0 prog 92 [.agg [.string p0.Kind, pv0_0, .bool p0.Not].toArray] (.bool r) := by
 refine eN func92 rfl ntmps92 rfl w0 fun hF => ?_
 unfold m_s_PatOk at h
 refine sr <| lbx rfl fun b_1 => art 8 [] rfl ?_
 refine lin (σ := Int) (fun s => [(1, pQ b_1), (3, iV s)]) (fun s => St w0 Φ [(b_1, .cells #[.string p0.Kind, pv0_0, .bool p0.Not] 35 (0, 0))] []) (fun m s => m_s_PatOk_l1 N p0 m s = some r) (0) N h (sx [] [0]) (fun n1 ih1 s hm => ?_)
 revert hm; revert s; intro s1 hm
 have h : m_s_PatOk_l1 N p0 (n1 + 1) s1 = some r := hm
 show WT _ _ [(1, pQ b_1), (3, iV s1)] (St w0 Φ [(b_1, .cells #[.string p0.Kind, pv0_0, .bool p0.Not] 35 (0, 0))] [])
 unfold m_s_PatOk_l1 at h
 refine atr 6 [1, 0] rfl <| lnr ph0_0 rfl <| la rfl <| en ?_
 refine ch h rfl ?_ ?_ <;> intro h
 ·refine atr 8 [1, 0] rfl ?_
  obtain ⟨x1, hx1, h⟩ := bs h
  obtain ⟨cs1, F1, -, g1, hb1, hs1, r1⟩ := ph0_0.el (idx_some hx1).2.2
  obtain ⟨rfl, -⟩ := r1
  refine lia ph0_0 hx1 rfl <| lhx 0 5 g1 rfl <| qc h (m_s_ArgOk_ok N · x1 ·) rfl rfl rfl fun x2 h => la rfl <| en ?_
  refine ch h rfl ?_ ?_ <;> intro h
  ·refine att 4 [] rfl ?_
   exact rt hF h
  refine att 7 [] rfl ?_
  exact lb [] [0] (ih1 _ h)
 refine atr 5 [0, 0] rfl <| qc h (m_s_NameOk_ok N · p0.Kind ·) rfl rfl rfl fun x3 h => la rfl ?_
 obtain ⟨b1, hb_1, h⟩ := bs h
 refine WL.cutN 5 [(26, .bool b1)] ?_ (fun K => ?_)
 rotate_left
 ·refine sp 21 hb_1 rfl (fun hb_1 => ?_) fun hb_1 => ?_
  ·refine arr 2 [1, 0] rfl <| ly rfl rfl <| lnr ph0_0 rfl <| arr 2 [] rfl ?_
   cases hb_1
   exact ku K
  ·refine arr 5 [] rfl ?_
   cases hb_1
   exact ku K
 refine la rfl <| en ?_
 exact rt hF h
theorem m_s_l9Pats_ok (w0 : Base Ψ Φ []) (p0 : (List TPat)) (ph0 : RSl RTPat 3 Ψ pG0 pv0 p0) {r : Bool} (h : m_s_l9Pats N p0 = some r) :
  CB w0 prog 42 [pv0] (.bool r) := by
 refine eN func42 rfl ntmps42 rfl w0 fun hF => ?_
 unfold m_s_l9Pats at h
 refine att 10 [] rfl ?_
 refine lin (σ := Int) (fun s => [(0, pv0), (3, iV s)]) (fun s => St w0 Φ [] []) (fun m s => m_s_l9Pats_l1 N p0 m s = some r) (0) N h (sx [] []) (fun n1 ih1 s hm => ?_)
 revert hm; revert s; intro s1 hm
 have h : m_s_l9Pats_l1 N p0 (n1 + 1) s1 = some r := hm
 show WT _ _ [(0, pv0), (3, iV s1)] (St w0 Φ [] [])
 unfold m_s_l9Pats_l1 at h
 refine atr 5 [] rfl <| lnr ph0 rfl <| la rfl <| en ?_
 refine ch h rfl ?_ ?_ <;> intro h
 ·refine atr 9 [] rfl ?_
  obtain ⟨b1, hb_1, h⟩ := bs h
  refine WL.cutN 7 [(19, .bool b1), (0, pv0), (3, iV s1)] ?_ (fun K => ?_)
  rotate_left
  ·refine sp 12 hb_1 rfl (fun hb_1 => ?_) fun hb_1 => ?_
   ·refine arr 2 [] rfl <| ly rfl rfl ?_
    obtain ⟨x1, hx1, hb_1⟩ := bs hb_1
    obtain ⟨cs1, F1, -, g1, hb1, hs1, r1⟩ := ph0.el (idx_some hx1).2.2
    obtain ⟨v1, G1, rfl, hq1, h1⟩ := r1
    obtain rfl := hq1.symm
    refine lia ph0 hx1 rfl <| ly rfl rfl <| lf Fld_35_2 rfl rfl rfl <| ly rfl rfl <| lhx 2 0 g1 rfl <| arr 2 [] rfl ?_
    cases hb_1
    exact ku K
   ·refine arr 7 [] rfl ?_
    cases hb_1
    exact ku K
  refine en ?_
  refine ch h rfl ?_ ?_ <;> intro h
  ·refine att 4 [] rfl ?_
   exact rt hF h
  refine atr 5 [] rfl ?_
  obtain ⟨x2, hx2, h⟩ := bs h
  obtain ⟨cs2, F2, -, g2, hb2, hs2, r2⟩ := ph0.el (idx_some hx2).2.2
  obtain ⟨v2, G2, rfl, hq2, h2⟩ := r2
  obtain rfl := hq2.symm
  refine lia ph0 hx2 rfl <| lhx 0 3 g2 rfl <| qd h (m_s_PatOk_ok N · x2 h2 ·) rfl rfl rfl fun x3 h => arr 2 [] rfl ?_
  obtain ⟨b2, hb_2, h⟩ := bs h
  refine WL.cutN 10 [(36, .bool b2), (0, pv0), (3, iV s1)] ?_ (fun K => ?_)
  rotate_left
  ·refine sp 26 hb_2 rfl (fun hb_2 => ?_) fun hb_2 => ?_
   ·refine arr 10 [] rfl ?_
    cases hb_2
    exact ku K
   ·refine arr 3 [] rfl ?_
    obtain ⟨b3, hb_3, hb_2⟩ := bs hb_2
    refine WL.cutN 6 [(35, .bool b3), (0, pv0), (3, iV s1), (26, .bool false)] ?_ (fun K => ?_)
    rotate_left
    ·refine sp 29 hb_3 rfl (fun hb_3 => ?_) fun hb_3 => ?_
     ·refine arr 2 [] rfl <| ly rfl rfl ?_
      obtain ⟨x4, hx4, hb_3⟩ := bs hb_3
      obtain ⟨cs3, F3, -, g3, hb3, hs3, r3⟩ := ph0.el (idx_some hx4).2.2
      obtain ⟨v3, G3, rfl, hq3, h3⟩ := r3
      obtain rfl := hq3.symm
      refine lia ph0 hx4 rfl <| ly rfl rfl <| lf Fld_35_2 rfl rfl rfl <| ly rfl rfl <| lhx 2 0 g3 rfl <| ly rfl rfl <| la rfl ?_
      cases hb_3
      exact ku K
     ·refine arr 6 [] rfl ?_
      cases hb_3
      exact ku K
    refine la rfl ?_
    cases hb_2
    exact ku K
  refine la rfl ?_
  obtain ⟨b4, hb_4, h⟩ := bs h
  refine WL.cutN 19 [(56, .bool b4), (0, pv0), (3, iV s1)] ?_ (fun K => ?_)
  rotate_left
  ·refine sp 37 hb_4 rfl (fun hb_4 => ?_) fun hb_4 => ?_
   ·refine arr 19 [] rfl ?_
    cases hb_4
    exact ku K
   ·refine arr 3 [] rfl ?_
    obtain ⟨b5, hb_5, hb_4⟩ := bs hb_4
    refine WL.cutN 7 [(47, .bool b5), (0, pv0), (3, iV s1), (37, .bool false)] ?_ (fun K => ?_)
    rotate_left
    ·refine sp 40 hb_5 rfl (fun hb_5 => ?_) fun hb_5 => ?_
     ·refine arr 3 [] rfl <| ly rfl rfl ?_
      obtain ⟨x5, hx5, hb_5⟩ := bs hb_5
      obtain ⟨cs4, F4, -, g4, hb4, hs4, r4⟩ := ph0.el (idx_some hx5).2.2
      obtain ⟨v4, G4, rfl, hq4, h4⟩ := r4
      obtain rfl := hq4.symm
      refine lia ph0 hx5 rfl <| ly rfl rfl <| lf Fld_35_2 rfl rfl rfl <| ly rfl rfl <| lhx 2 0 g4 rfl <| ly rfl rfl <| la rfl ?_
      cases hb_5
      exact ku K
     ·refine arr 7 [] rfl ?_
      cases hb_5
      exact ku K
    refine ly rfl rfl <| la rfl ?_
    obtain ⟨b6, hb_6, hb_4⟩ := bs hb_4
    refine WL.cutN 7 [(55, .bool b6), (0, pv0), (3, iV s1), (37, .bool false)] ?_ (fun K => ?_)
    rotate_left
    ·refine sp 48 hb_6 rfl (fun hb_6 => ?_) fun hb_6 => ?_
     ·refine arr 2 [] rfl <| ly rfl rfl ?_
      obtain ⟨x6, hx6, hb_6⟩ := bs hb_6
      obtain ⟨cs5, F5, -, g5, hb5, hs5, r5⟩ := ph0.el (idx_some hx6).2.2
      obtain ⟨v5, G5, rfl, hq5, h5⟩ := r5
      obtain rfl := hq5.symm
      refine lia ph0 hx6 rfl <| ly rfl rfl <| lf Fld_35_2 rfl rfl rfl <| ly rfl rfl <| lhx 2 0 g5 rfl <| arr 2 [] rfl ?_
      cases hb_6
      exact ku K
     ·refine arr 7 [] rfl ?_
      cases hb_6
      exact ku K
    refine la rfl ?_
    cases hb_4
    exact ku K
  refine en ?_
  refine ch h rfl ?_ ?_ <;> intro h
  ·refine att 4 [] rfl ?_
   exact rt hF h
  refine att 7 [] rfl ?_
  exact lb [] [] (ih1 _ h)
 refine atr 4 [] rfl <| lnr ph0 rfl <| qc h (m_s_l1In_ok N · (p0.length : Int) 1 6 ·) rfl rfl rfl fun x7 h => la rfl <| en ?_
 exact rt hF h
theorem m_s_CondOk_ok  (w0 : Base Ψ Φ []) (p0 : TCond)  {r : Bool} (h : m_s_CondOk N p0 = some r) :
  CB w0 prog 93 [.agg [iV p0.Op, iV p0.L.K, .string p0.L.S, iV p0.L.V.K, iV p0.L.V.N, .string p0.L.V.S, iV p0.R.K, .string p0.R.S, iV p0.R.V.K, iV p0.R.V.N, .string p0.R.V.S].toArray] (.bool r) := by
 refine eN func93 rfl ntmps93 rfl w0 fun hF => ?_
 unfold m_s_CondOk at h
 refine sr <| lbx rfl fun b_1 => arr 6 [0, 0] rfl <| qc h (m_s_l1In_ok N · p0.Op 1 3 ·) rfl rfl rfl fun x1 h => la rfl ?_
 obtain ⟨b1, hb_1, h⟩ := bs h
 refine WL.cutN 4 [(10, .bool b1), (1, pQ b_1), (2, .bool false)] ?_ (fun K => ?_)
 rotate_left
 ·refine sp 6 hb_1 rfl (fun hb_1 => ?_) fun hb_1 => ?_
  ·refine arr 2 [1, 5] rfl <| ly rfl rfl <| qc hb_1 (m_s_ArgOk_ok N · p0.L ·) rfl rfl rfl fun x2 hb_1 => la rfl ?_
   cases hb_1
   exact ku K
  ·refine arr 4 [] rfl ?_
   cases hb_1
   exact ku K
 refine la rfl ?_
 obtain ⟨b2, hb_2, h⟩ := bs h
 refine WL.cutN 4 [(15, .bool b2), (1, pQ b_1), (2, .bool false)] ?_ (fun K => ?_)
 rotate_left
 ·refine sp 11 hb_2 rfl (fun hb_2 => ?_) fun hb_2 => ?_
  ·refine arr 2 [6, 5] rfl <| ly rfl rfl <| qc hb_2 (m_s_ArgOk_ok N · p0.R ·) rfl rfl rfl fun x3 hb_2 => la rfl ?_
   cases hb_2
   exact ku K
  ·refine arr 4 [] rfl ?_
   cases hb_2
   exact ku K
 refine la rfl ?_
 obtain ⟨b3, hb_3, h⟩ := bs h
 refine WL.cutN 5 [(21, .bool b3), (1, pQ b_1), (2, .bool false)] ?_ (fun K => ?_)
 rotate_left
 ·refine sp 16 hb_3 rfl (fun hb_3 => ?_) fun hb_3 => ?_
  ·refine arr 5 [1, 0, 0] rfl ?_
   cases hb_3
   exact ku K
  ·refine arr 5 [] rfl ?_
   cases hb_3
   exact ku K
 refine la rfl ?_
 obtain ⟨b4, hb_4, h⟩ := bs h
 refine WL.cutN 5 [(27, .bool b4), (2, .bool false)] ?_ (fun K => ?_)
 rotate_left
 ·refine sp 22 hb_4 rfl (fun hb_4 => ?_) fun hb_4 => ?_
  ·refine arr 5 [6, 0, 0] rfl ?_
   cases hb_4
   exact ku K
  ·refine arr 5 [] rfl ?_
   cases hb_4
   exact ku K
 refine la rfl <| en ?_
 exact rt hF h
theorem m_s_l9Conds_ok (w0 : Base Ψ Φ []) (p0 : (List TCond)) (p1 : (List ByteArray)) (ph0 : RSl RTCond 11 Ψ pG0 pv0 p0) (ph1 : RSl RS 1 Ψ pG1 pv1 p1) {r : Bool} (h : m_s_l9Conds N p0 p1 = some r) :
  CB w0 prog 43 [pv0, pv1] (.bool r) := by
 refine eN func43 rfl ntmps43 rfl w0 fun hF => ?_
 unfold m_s_l9Conds at h
 refine att 10 [] rfl ?_
 refine lin (σ := Int) (fun s => [(0, pv0), (1, pv1), (5, iV s)]) (fun s => St w0 Φ [] []) (fun m s => m_s_l9Conds_l1 N p0 p1 m s = some r) (0) N h (sx [] []) (fun n1 ih1 s hm => ?_)
 revert hm; revert s; intro s1 hm
 have h : m_s_l9Conds_l1 N p0 p1 (n1 + 1) s1 = some r := hm
 show WT _ _ [(0, pv0), (1, pv1), (5, iV s1)] (St w0 Φ [] [])
 unfold m_s_l9Conds_l1 at h
 refine atr 5 [] rfl <| lnr ph0 rfl <| la rfl <| en ?_
 refine ch h rfl ?_ ?_ <;> intro h
 ·refine atr 7 [] rfl ?_
  obtain ⟨x1, hx1, h⟩ := bs h
  obtain ⟨cs1, F1, -, g1, hb1, hs1, r1⟩ := ph0.el (idx_some hx1).2.2
  obtain ⟨rfl, -⟩ := r1
  refine lia ph0 hx1 rfl <| lhx 0 11 g1 rfl <| qc h (m_s_CondOk_ok N · x1 ·) rfl rfl rfl fun x2 h => arr 2 [] rfl ?_
  obtain ⟨b1, hb_1, h⟩ := bs h
  refine WL.cutN 9 [(27, .bool b1), (0, pv0), (1, pv1), (5, iV s1)] ?_ (fun K => ?_)
  rotate_left
  ·refine sp 18 hb_1 rfl (fun hb_1 => ?_) fun hb_1 => ?_
   ·refine arr 9 [] rfl ?_
    cases hb_1
    exact ku K
   ·refine arr 2 [] rfl <| ly rfl rfl ?_
    obtain ⟨x3, hx3, hb_1⟩ := bs hb_1
    obtain ⟨cs2, F2, -, g2, hb2, hs2, r2⟩ := ph0.el (idx_some hx3).2.2
    obtain ⟨rfl, -⟩ := r2
    refine lia ph0 hx3 rfl <| ly rfl rfl <| lf Fld_62_1 rfl rfl rfl <| ly rfl rfl <| lhx 1 5 g2 rfl <| ly rfl rfl <| la rfl <| ly rfl rfl <| qd hb_1 (m_s_l9Known_ok N · x3.L p1 ph1 ·) rfl rfl rfl fun x4 hb_1 => arr 2 [] rfl ?_
    cases hb_1
    exact ku K
  refine la rfl ?_
  obtain ⟨b2, hb_2, h⟩ := bs h
  refine WL.cutN 9 [(37, .bool b2), (0, pv0), (1, pv1), (5, iV s1)] ?_ (fun K => ?_)
  rotate_left
  ·refine sp 28 hb_2 rfl (fun hb_2 => ?_) fun hb_2 => ?_
   ·refine arr 9 [] rfl ?_
    cases hb_2
    exact ku K
   ·refine arr 2 [] rfl <| ly rfl rfl ?_
    obtain ⟨x5, hx5, hb_2⟩ := bs hb_2
    obtain ⟨cs3, F3, -, g3, hb3, hs3, r3⟩ := ph0.el (idx_some hx5).2.2
    obtain ⟨rfl, -⟩ := r3
    refine lia ph0 hx5 rfl <| ly rfl rfl <| lf Fld_62_2 rfl rfl rfl <| ly rfl rfl <| lhx 6 5 g3 rfl <| ly rfl rfl <| la rfl <| ly rfl rfl <| qd hb_2 (m_s_l9Known_ok N · x5.R p1 ph1 ·) rfl rfl rfl fun x6 hb_2 => arr 2 [] rfl ?_
    cases hb_2
    exact ku K
  refine en ?_
  refine ch h rfl ?_ ?_ <;> intro h
  ·refine att 4 [] rfl ?_
   exact rt hF h
  refine att 7 [] rfl ?_
  exact lb [] [] (ih1 _ h)
 refine atr 4 [] rfl <| lnr ph0 rfl <| art 3 [] rfl ?_
 exact rt hF h
theorem m_s_l8Given_ok  (w0 : Base Ψ Φ []) (p0 : TArg)  {r : Bool} (h : m_s_l8Given N p0 = some r) :
  CB w0 prog 217 [.agg [iV p0.K, .string p0.S, iV p0.V.K, iV p0.V.N, .string p0.V.S].toArray] (.bool r) := by
 refine eN func217 rfl ntmps217 rfl w0 fun hF => ?_
 unfold m_s_l8Given at h
 refine sr <| lbx rfl fun b_1 => arr 5 [5] rfl <| qc h (m_s_ArgOk_ok N · p0 ·) rfl rfl rfl fun x1 h => la rfl ?_
 obtain ⟨b1, hb_1, h⟩ := bs h
 refine WL.cutN 4 [(9, .bool b1), (2, .bool false)] ?_ (fun K => ?_)
 rotate_left
 ·refine sp 5 hb_1 rfl (fun hb_1 => ?_) fun hb_1 => ?_
  ·refine arr 4 [0, 0] rfl ?_
   cases hb_1
   exact ku K
  ·refine arr 4 [] rfl ?_
   cases hb_1
   exact ku K
 refine la rfl <| en ?_
 exact rt hF h
theorem m_s_ExprOk_ok  (w0 : Base Ψ Φ []) (p0 : TExpr)  {r : Bool} (h : m_s_ExprOk N p0 = some r) :
  CB w0 prog 198 [.agg [.string p0.Op, iV p0.L.K, .string p0.L.S, iV p0.L.V.K, iV p0.L.V.N, .string p0.L.V.S, iV p0.R.K, .string p0.R.S, iV p0.R.V.K, iV p0.R.V.N, .string p0.R.V.S].toArray] (.bool r) := by
 refine eN func198 rfl ntmps198 rfl w0 fun hF => ?_
 unfold m_s_ExprOk at h
 refine sr <| lbx rfl fun b_1 => art 14 [0, 0] rfl ?_
 refine ch h rfl ?_ ?_ <;> intro h
 ·refine atr 4 [1, 5] rfl <| qc h (m_s_l8Given_ok N · p0.L ·) rfl rfl rfl fun x1 h => la rfl ?_
  obtain ⟨b1, hb_1, h⟩ := bs h
  refine WL.cutN 5 [(15, .bool b1), (2, .bool false)] ?_ (fun K => ?_)
  rotate_left
  ·refine sp 10 hb_1 rfl (fun hb_1 => ?_) fun hb_1 => ?_
   ·refine arr 2 [6, 5] rfl <| ly rfl rfl <| lq (q_build (vs := []) (C := #[iV 0, .string (⟨#[]⟩ : ByteArray), iV 0, iV 0, .string (⟨#[]⟩ : ByteArray)]) Pl_60 Zr_60 rfl (fill_nil)) rfl <| ly rfl rfl <| lq (q_eqA EqT_60 rfl rfl rfl (r := eqT_TArg p0.R (⟨0, (⟨#[]⟩ : ByteArray), (⟨0, 0, (⟨#[]⟩ : ByteArray)⟩ : TVal)⟩ : TArg)) rfl) rfl <| la rfl ?_
    cases hb_1
    exact ku K
   ·refine arr 5 [] rfl ?_
    cases hb_1
    exact ku K
  refine la rfl <| en ?_
  exact rt hF h
 refine att 6 [] rfl ?_
 refine cut (σ := Bool) (fun s => [(1, pQ b_1), (16, .bool s)]) (fun s => St w0 Φ [(b_1, .cells #[.string p0.Op, iV p0.L.K, .string p0.L.S, iV p0.L.V.K, iV p0.L.V.N, .string p0.L.V.S, iV p0.R.K, .string p0.R.S, iV p0.R.V.K, iV p0.R.V.N, .string p0.R.V.S] 116 (0, 0))] []) (fun s => m_s_ExprOk_j1 N p0 s = some r) (fun s hm => ?_) (fun K => ?_)
 ·clear h
  revert hm; revert s; intro s1 hm
  have h : m_s_ExprOk_j1 N p0 s1 = some r := hm
  show WT _ _ [(1, pQ b_1), (16, .bool s1)] (St w0 Φ [(b_1, .cells #[.string p0.Op, iV p0.L.K, .string p0.L.S, iV p0.L.V.K, iV p0.L.V.N, .string p0.L.V.S, iV p0.R.K, .string p0.R.S, iV p0.R.V.K, iV p0.R.V.N, .string p0.R.V.S] 116 (0, 0))] [])
  unfold m_s_ExprOk_j1 at h
  refine ch h rfl ?_ ?_ <;> intro h
  ·refine atr 4 [1, 5] rfl <| qc h (m_s_l8Given_ok N · p0.L ·) rfl rfl rfl fun x2 h => la rfl ?_
   obtain ⟨b2, hb_2, h⟩ := bs h
   refine WL.cutN 4 [(26, .bool b2)] ?_ (fun K => ?_)
   rotate_left
   ·refine sp 22 hb_2 rfl (fun hb_2 => ?_) fun hb_2 => ?_
    ·refine arr 2 [6, 5] rfl <| ly rfl rfl <| qc hb_2 (m_s_l8Given_ok N · p0.R ·) rfl rfl rfl fun x3 hb_2 => la rfl ?_
     cases hb_2
     exact ku K
    ·refine arr 4 [] rfl ?_
     cases hb_2
     exact ku K
   refine la rfl <| en ?_
   exact rt hF h
  refine att 6 [] rfl ?_
  exact rt hF h
 refine ch h rfl ?_ ?_ <;> intro h
 ·refine WT.skip ?_
  exact wo [] [0] (K _ h)
 refine att 4 [] rfl ?_
 exact wo [] [0] (K _ h)
theorem m_s_l8Args_ok (w0 : Base Ψ Φ []) (p0 : (List TExpr)) (ph0 : RSl RTExpr 11 Ψ pG0 pv0 p0) {r : Bool} (h : m_s_l8Args N p0 = some r) :
  CB w0 prog 153 [pv0] (.bool r) := by
 refine eN func153 rfl ntmps153 rfl w0 fun hF => ?_
 unfold m_s_l8Args at h
 refine att 10 [] rfl ?_
 refine lin (σ := Int) (fun s => [(0, pv0), (3, iV s)]) (fun s => St w0 Φ [] []) (fun m s => m_s_l8Args_l1 N p0 m s = some r) (0) N h (sx [] []) (fun n1 ih1 s hm => ?_)
 revert hm; revert s; intro s1 hm
 have h : m_s_l8Args_l1 N p0 (n1 + 1) s1 = some r := hm
 show WT _ _ [(0, pv0), (3, iV s1)] (St w0 Φ [] [])
 unfold m_s_l8Args_l1 at h
 refine atr 5 [] rfl <| lnr ph0 rfl <| la rfl <| en ?_
 refine ch h rfl ?_ ?_ <;> intro h
 ·refine atr 7 [] rfl ?_
  obtain ⟨x1, hx1, h⟩ := bs h
  obtain ⟨cs1, F1, -, g1, hb1, hs1, r1⟩ := ph0.el (idx_some hx1).2.2
  obtain ⟨rfl, -⟩ := r1
  refine lia ph0 hx1 rfl <| lhx 0 11 g1 rfl <| qc h (m_s_ExprOk_ok N · x1 ·) rfl rfl rfl fun x2 h => la rfl <| en ?_
  refine ch h rfl ?_ ?_ <;> intro h
  ·refine att 4 [] rfl ?_
   exact rt hF h
  refine att 7 [] rfl ?_
  exact lb [] [] (ih1 _ h)
 refine atr 4 [] rfl <| lnr ph0 rfl <| art 3 [] rfl ?_
 exact rt hF h
theorem m_s_ActOk_ok (w0 : Base Ψ Φ []) (p0 : TAct) (ph0_0 : RSl RTExpr 11 Ψ pG0_0 pv0_0 p0.Args) {r : Bool} (h : m_s_ActOk N p0 = some r) :
  CB w0 prog 95 [.agg [iV p0.Kind, .string p0.Name, pv0_0, iV p0.N, .string p0.Undo].toArray] (.bool r) := by
 refine eN func95 rfl ntmps95 rfl w0 fun hF => ?_
 unfold m_s_ActOk at h
 refine sr <| lbx rfl fun b_1 => arr 8 [1, 0] rfl ?_
 obtain ⟨b1, hb_1, h⟩ := bs h
 refine WL.cutN 5 [(12, .bool b1), (1, pQ b_1)] ?_ (fun K => ?_)
 rotate_left
 ·refine sp 7 hb_1 rfl (fun hb_1 => ?_) fun hb_1 => ?_
  ·refine arr 2 [2, 0] rfl <| ly rfl rfl <| lnr ph0_0 rfl <| arr 2 [] rfl ?_
   cases hb_1
   exact ku K
  ·refine arr 5 [] rfl ?_
   cases hb_1
   exact ku K
 refine la rfl ?_
 obtain ⟨b2, hb_2, h⟩ := bs h
 refine WL.cutN 4 [(17, .bool b2), (1, pQ b_1)] ?_ (fun K => ?_)
 rotate_left
 ·refine sp 13 hb_2 rfl (fun hb_2 => ?_) fun hb_2 => ?_
  ·refine arr 4 [4, 0] rfl ?_
   cases hb_2
   exact ku K
  ·refine arr 4 [] rfl ?_
   cases hb_2
   exact ku K
 refine art 14 [0, 0] rfl ?_
 refine ch h rfl ?_ ?_ <;> intro h
 ·refine atr 4 [1, 0] rfl <| qc h (m_s_NameOk_ok N · p0.Name ·) rfl rfl rfl fun x1 h => la rfl ?_
  obtain ⟨b3, hb_3, h⟩ := bs h
  refine WL.cutN 4 [(29, .bool b3), (1, pQ b_1)] ?_ (fun K => ?_)
  rotate_left
  ·refine sp 25 hb_3 rfl (fun hb_3 => ?_) fun hb_3 => ?_
   ·refine arr 2 [2, 0] rfl <| ly rfl rfl <| qd hb_3 (m_s_l8Args_ok N · p0.Args ph0_0 ·) rfl rfl rfl fun x2 hb_3 => la rfl ?_
    cases hb_3
    exact ku K
   ·refine arr 4 [] rfl ?_
    cases hb_3
    exact ku K
  refine la rfl ?_
  obtain ⟨b4, hb_4, h⟩ := bs h
  refine WL.cutN 4 [(34, .bool b4), (1, pQ b_1)] ?_ (fun K => ?_)
  rotate_left
  ·refine sp 30 hb_4 rfl (fun hb_4 => ?_) fun hb_4 => ?_
   ·refine arr 4 [3, 0] rfl ?_
    cases hb_4
    exact ku K
   ·refine arr 4 [] rfl ?_
    cases hb_4
    exact ku K
  refine la rfl ?_
  obtain ⟨b5, hb_5, h⟩ := bs h
  refine WL.cutN 4 [(39, .bool b5)] ?_ (fun K => ?_)
  rotate_left
  ·refine sp 35 hb_5 rfl (fun hb_5 => ?_) fun hb_5 => ?_
   ·refine arr 4 [4, 0] rfl ?_
    cases hb_5
    exact ku K
   ·refine arr 4 [] rfl ?_
    cases hb_5
    exact ku K
  refine la rfl <| en ?_
  exact rt hF h
 refine att 5 [] rfl ?_
 refine ch h rfl ?_ ?_ <;> intro h
 ·refine atr 4 [1, 0] rfl <| qc h (m_s_NameOk_ok N · p0.Name ·) rfl rfl rfl fun x3 h => la rfl ?_
  obtain ⟨b6, hb_6, h⟩ := bs h
  refine WL.cutN 4 [(49, .bool b6), (1, pQ b_1)] ?_ (fun K => ?_)
  rotate_left
  ·refine sp 45 hb_6 rfl (fun hb_6 => ?_) fun hb_6 => ?_
   ·refine arr 2 [2, 0] rfl <| ly rfl rfl <| qd hb_6 (m_s_l8Args_ok N · p0.Args ph0_0 ·) rfl rfl rfl fun x4 hb_6 => la rfl ?_
    cases hb_6
    exact ku K
   ·refine arr 4 [] rfl ?_
    cases hb_6
    exact ku K
  refine la rfl ?_
  obtain ⟨b7, hb_7, h⟩ := bs h
  refine WL.cutN 4 [(54, .bool b7), (1, pQ b_1)] ?_ (fun K => ?_)
  rotate_left
  ·refine sp 50 hb_7 rfl (fun hb_7 => ?_) fun hb_7 => ?_
   ·refine arr 4 [3, 0] rfl ?_
    cases hb_7
    exact ku K
   ·refine arr 4 [] rfl ?_
    cases hb_7
    exact ku K
  refine la rfl ?_
  obtain ⟨b8, hb_8, h⟩ := bs h
  refine WL.cutN 9 [(64, .bool b8)] ?_ (fun K => ?_)
  rotate_left
  ·refine sp 55 hb_8 rfl (fun hb_8 => ?_) fun hb_8 => ?_
   ·refine arr 4 [4, 0] rfl ?_
    obtain ⟨b9, hb_9, hb_8⟩ := bs hb_8
    refine WL.cutN 4 [(63, .bool b9), (55, .bool true)] ?_ (fun K => ?_)
    rotate_left
    ·refine sp 59 hb_9 rfl (fun hb_9 => ?_) fun hb_9 => ?_
     ·refine arr 4 [] rfl ?_
      cases hb_9
      exact ku K
     ·refine arr 2 [4, 0] rfl <| ly rfl rfl <| qc hb_9 (m_s_NameOk_ok N · p0.Undo ·) rfl rfl rfl fun x5 hb_9 => ly rfl rfl <| la rfl ?_
      cases hb_9
      exact ku K
    refine la rfl ?_
    cases hb_8
    exact ku K
   ·refine arr 9 [] rfl ?_
    cases hb_8
    exact ku K
  refine la rfl <| en ?_
  exact rt hF h
 refine att 5 [] rfl ?_
 refine ch h rfl ?_ ?_ <;> intro h
 ·refine atr 4 [1, 0] rfl <| qc h (m_s_NameOk_ok N · p0.Name ·) rfl rfl rfl fun x6 h => la rfl ?_
  obtain ⟨b10, hb_10, h⟩ := bs h
  refine WL.cutN 4 [(74, .bool b10), (1, pQ b_1)] ?_ (fun K => ?_)
  rotate_left
  ·refine sp 70 hb_10 rfl (fun hb_10 => ?_) fun hb_10 => ?_
   ·refine arr 2 [2, 0] rfl <| ly rfl rfl <| qd hb_10 (m_s_l8Args_ok N · p0.Args ph0_0 ·) rfl rfl rfl fun x7 hb_10 => la rfl ?_
    cases hb_10
    exact ku K
   ·refine arr 4 [] rfl ?_
    cases hb_10
    exact ku K
  refine la rfl ?_
  obtain ⟨b11, hb_11, h⟩ := bs h
  refine WL.cutN 4 [(79, .bool b11), (1, pQ b_1)] ?_ (fun K => ?_)
  rotate_left
  ·refine sp 75 hb_11 rfl (fun hb_11 => ?_) fun hb_11 => ?_
   ·refine arr 2 [3, 0] rfl <| ly rfl rfl <| qc hb_11 (m_s_l1In_ok N · p0.N 0 100000 ·) rfl rfl rfl fun x8 hb_11 => la rfl ?_
    cases hb_11
    exact ku K
   ·refine arr 4 [] rfl ?_
    cases hb_11
    exact ku K
  refine la rfl ?_
  obtain ⟨b12, hb_12, h⟩ := bs h
  refine WL.cutN 4 [(84, .bool b12)] ?_ (fun K => ?_)
  rotate_left
  ·refine sp 80 hb_12 rfl (fun hb_12 => ?_) fun hb_12 => ?_
   ·refine arr 4 [4, 0] rfl ?_
    cases hb_12
    exact ku K
   ·refine arr 4 [] rfl ?_
    cases hb_12
    exact ku K
  refine la rfl <| en ?_
  exact rt hF h
 refine att 5 [] rfl ?_
 refine ch h rfl ?_ ?_ <;> intro h
 ·refine atr 4 [] rfl ?_
  obtain ⟨b13, hb_13, h⟩ := bs h
  refine WL.cutN 4 [(92, .bool b13)] ?_ (fun K => ?_)
  rotate_left
  ·refine sp 88 hb_13 rfl (fun hb_13 => ?_) fun hb_13 => ?_
   ·refine arr 2 [3, 0] rfl <| ly rfl rfl <| qc hb_13 (m_s_l1In_ok N · p0.N 0 7 ·) rfl rfl rfl fun x9 hb_13 => la rfl ?_
    cases hb_13
    exact ku K
   ·refine arr 4 [] rfl ?_
    cases hb_13
    exact ku K
  refine la rfl <| en ?_
  exact rt hF h
 refine att 6 [] rfl ?_
 refine cut (σ := Bool) (fun s => [(1, pQ b_1), (3, .bool b2), (93, .bool s)]) (fun s => St w0 Φ [(b_1, .cells #[iV p0.Kind, .string p0.Name, pv0_0, iV p0.N, .string p0.Undo] 66 (0, 0))] []) (fun s => m_s_ActOk_j1 N p0 b2 s = some r) (fun s hm => ?_) (fun K => ?_)
 ·clear h
  revert hm; revert s; intro s1 hm
  have h : m_s_ActOk_j1 N p0 b2 s1 = some r := hm
  show WT _ _ [(1, pQ b_1), (3, .bool b2), (93, .bool s1)] (St w0 Φ [(b_1, .cells #[iV p0.Kind, .string p0.Name, pv0_0, iV p0.N, .string p0.Undo] 66 (0, 0))] [])
  unfold m_s_ActOk_j1 at h
  refine ch h rfl ?_ ?_ <;> intro h
  ·refine atr 4 [] rfl ?_
   obtain ⟨b14, hb_14, h⟩ := bs h
   refine WL.cutN 4 [(101, .bool b14)] ?_ (fun K => ?_)
   rotate_left
   ·refine sp 97 hb_14 rfl (fun hb_14 => ?_) fun hb_14 => ?_
    ·refine arr 4 [3, 0] rfl ?_
     cases hb_14
     exact ku K
    ·refine arr 4 [] rfl ?_
     cases hb_14
     exact ku K
   refine la rfl <| en ?_
   exact rt hF h
  refine att 6 [] rfl ?_
  exact rt hF h
 refine ch h rfl ?_ ?_ <;> intro h
 ·refine WT.skip ?_
  exact wo [] [0] (K _ h)
 refine att 4 [] rfl ?_
 exact wo [] [0] (K _ h)
theorem m_s_l9Acts_ok (w0 : Base Ψ Φ []) (p0 : (List TAct)) (p1 : (List ByteArray)) (p2 : Int) (ph0 : RSl RTAct 5 Ψ pG0 pv0 p0) (ph1 : RSl RS 1 Ψ pG1 pv1 p1) {r : Bool} (h : m_s_l9Acts N p0 p1 p2 = some r) :
  CB w0 prog 44 [pv0, pv1, iV p2] (.bool r) := by
 refine eN func44 rfl ntmps44 rfl w0 fun hF => ?_
 unfold m_s_l9Acts at h
 refine att 10 [] rfl ?_
 refine lin (σ := Int) (fun s => [(0, pv0), (1, pv1), (2, iV p2), (7, iV s)]) (fun s => St w0 Φ [] []) (fun m s => m_s_l9Acts_l1 N p0 p1 p2 m s = some r) (0) N h (sx [] []) (fun n1 ih1 s hm => ?_)
 revert hm; revert s; intro s1 hm
 have h : m_s_l9Acts_l1 N p0 p1 p2 (n1 + 1) s1 = some r := hm
 show WT _ _ [(0, pv0), (1, pv1), (2, iV p2), (7, iV s1)] (St w0 Φ [] [])
 unfold m_s_l9Acts_l1 at h
 refine atr 5 [] rfl <| lnr ph0 rfl <| la rfl <| en ?_
 refine ch h rfl ?_ ?_ <;> intro h
 ·refine atr 8 [] rfl ?_
  obtain ⟨x1, hx1, h⟩ := bs h
  obtain ⟨cs1, F1, -, g1, hb1, hs1, r1⟩ := ph0.el (idx_some hx1).2.2
  obtain ⟨v1, G1, rfl, hq1, h1⟩ := r1
  obtain rfl := hq1.symm
  refine lia ph0 hx1 rfl <| lhx 0 5 g1 rfl <| qd h (m_s_ActOk_ok N · x1 h1 ·) rfl rfl rfl fun x2 h => arr 2 [] rfl ?_
  obtain ⟨b1, hb_1, h⟩ := bs h
  refine WL.cutN 16 [(37, .bool b1), (0, pv0), (1, pv1), (2, iV p2), (7, iV s1)] ?_ (fun K => ?_)
  rotate_left
  ·refine sp 21 hb_1 rfl (fun hb_1 => ?_) fun hb_1 => ?_
   ·refine arr 16 [] rfl ?_
    cases hb_1
    exact ku K
   ·refine arr 2 [] rfl <| ly rfl rfl ?_
    obtain ⟨x3, hx3, hb_1⟩ := bs hb_1
    obtain ⟨cs2, F2, -, g2, hb2, hs2, r2⟩ := ph0.el (idx_some hx3).2.2
    obtain ⟨v2, G2, rfl, hq2, h2⟩ := r2
    obtain rfl := hq2.symm
    refine lia ph0 hx3 rfl <| ly rfl rfl <| lf Fld_66_0 rfl rfl rfl <| ly rfl rfl <| lhx 0 0 g2 rfl <| arr 2 [] rfl ?_
    obtain ⟨b2, hb_2, hb_1⟩ := bs hb_1
    refine WL.cutN 8 [(36, .bool b2), (0, pv0), (1, pv1), (2, iV p2), (7, iV s1), (21, .bool false)] ?_ (fun K => ?_)
    rotate_left
    ·refine sp 28 hb_2 rfl (fun hb_2 => ?_) fun hb_2 => ?_
     ·refine arr 2 [] rfl <| ly rfl rfl ?_
      obtain ⟨x4, hx4, hb_2⟩ := bs hb_2
      obtain ⟨cs3, F3, -, g3, hb3, hs3, r3⟩ := ph0.el (idx_some hx4).2.2
      obtain ⟨v3, G3, rfl, hq3, h3⟩ := r3
      obtain rfl := hq3.symm
      refine lia ph0 hx4 rfl <| ly rfl rfl <| lf Fld_66_3 rfl rfl rfl <| ly rfl rfl <| lhx 3 0 g3 rfl <| arr 3 [] rfl ?_
      cases hb_2
      exact ku K
     ·refine arr 8 [] rfl ?_
      cases hb_2
      exact ku K
    refine la rfl ?_
    cases hb_1
    exact ku K
  refine en ?_
  refine ch h rfl ?_ ?_ <;> intro h
  ·refine att 4 [] rfl ?_
   exact rt hF h
  refine att 6 [] rfl ?_
  refine lin (σ := Int) (fun s => [(0, pv0), (1, pv1), (2, iV p2), (7, iV s1), (8, iV s)]) (fun s => St w0 Φ [] []) (fun m s => m_s_l9Acts_l2 N p0 p1 s1 (m_s_l9Acts_l1 N p0 p1 p2 n1) m s = some r) (0) N h (sx [] []) (fun n2 ih2 s hm => ?_)
  revert hm; revert s; intro s2 hm
  have h : m_s_l9Acts_l2 N p0 p1 s1 (m_s_l9Acts_l1 N p0 p1 p2 n1) (n2 + 1) s2 = some r := hm
  show WT _ _ [(0, pv0), (1, pv1), (2, iV p2), (7, iV s1), (8, iV s2)] (St w0 Φ [] [])
  unfold m_s_l9Acts_l2 at h
  refine atr 6 [] rfl ?_
  obtain ⟨x5, hx5, h⟩ := bs h
  obtain ⟨cs4, F4, -, g4, hb4, hs4, r4⟩ := ph0.el (idx_some hx5).2.2
  obtain ⟨v4, G4, rfl, hq4, h4⟩ := r4
  obtain rfl := hq4.symm
  refine lia ph0 hx5 rfl <| lf Fld_66_2 rfl rfl rfl <| lhx 2 0 g4 rfl <| lnr h4 rfl <| la rfl <| en ?_
  refine ch h rfl ?_ ?_ <;> intro h
  ·refine atr 7 [] rfl ?_
   obtain ⟨x6, hx6, h⟩ := bs h
   obtain ⟨cs5, F5, -, g5, hb5, hs5, r5⟩ := ph0.el (idx_some hx6).2.2
   obtain ⟨v5, G5, rfl, hq5, h5⟩ := r5
   obtain rfl := hq5.symm
   refine lia ph0 hx6 rfl <| lf Fld_66_2 rfl rfl rfl <| lhx 2 0 g5 rfl <| la rfl ?_
   obtain ⟨x7, hx7, h⟩ := bs h
   obtain ⟨cs6, F6, -, g6, hb6, hs6, r6⟩ := h5.el (idx_some hx7).2.2
   obtain ⟨rfl, -⟩ := r6
   refine lia h5 hx7 rfl <| lf Fld_116_1 rfl rfl rfl <| lhx 1 5 g6 rfl <| la rfl <| qd h (m_s_l9Known_ok N · x7.L p1 ph1 ·) rfl rfl rfl fun x8 h => arr 2 [] rfl ?_
   obtain ⟨b3, hb_3, h⟩ := bs h
   refine WL.cutN 13 [(73, .bool b3), (0, pv0), (1, pv1), (2, iV p2), (7, iV s1), (8, iV s2)] ?_ (fun K => ?_)
   rotate_left
   ·refine sp 60 hb_3 rfl (fun hb_3 => ?_) fun hb_3 => ?_
    ·refine arr 13 [] rfl ?_
     cases hb_3
     exact ku K
    ·refine arr 2 [] rfl <| ly rfl rfl ?_
     obtain ⟨x9, hx9, hb_3⟩ := bs hb_3
     obtain ⟨cs7, F7, -, g7, hb7, hs7, r7⟩ := ph0.el (idx_some hx9).2.2
     obtain ⟨v6, G6, rfl, hq6, h6⟩ := r7
     obtain rfl := hq6.symm
     refine lia ph0 hx9 rfl <| ly rfl rfl <| lf Fld_66_2 rfl rfl rfl <| ly rfl rfl <| lhx 2 0 g7 rfl <| ly rfl rfl <| la rfl <| ly rfl rfl ?_
     obtain ⟨x10, hx10, hb_3⟩ := bs hb_3
     obtain ⟨cs8, F8, -, g8, hb8, hs8, r8⟩ := h6.el (idx_some hx10).2.2
     obtain ⟨rfl, -⟩ := r8
     refine lia h6 hx10 rfl <| ly rfl rfl <| lf Fld_116_2 rfl rfl rfl <| ly rfl rfl <| lhx 6 5 g8 rfl <| ly rfl rfl <| la rfl <| ly rfl rfl <| qd hb_3 (m_s_l9Known_ok N · x10.R p1 ph1 ·) rfl rfl rfl fun x11 hb_3 => arr 2 [] rfl ?_
     cases hb_3
     exact ku K
   refine en ?_
   refine ch h rfl ?_ ?_ <;> intro h
   ·refine att 4 [] rfl ?_
    exact rt hF h
   refine att 7 [] rfl ?_
   exact lb [] [] (ih2 _ h)
  refine att 7 [] rfl ?_
  exact lb [] [] (ih1 _ h)
 refine atr 4 [] rfl <| lnr ph0 rfl <| qc h (m_s_l1In_ok N · (p0.length : Int) 1 6 ·) rfl rfl rfl fun x12 h => la rfl <| en ?_
 exact rt hF h
theorem m_s_RuleOk_ok (w0 : Base Ψ Φ []) (p0 : TRule) (ph0_0 : RSl RTPat 3 Ψ pG0_0 pv0_0 p0.Pats) (ph0_1 : RSl RTCond 11 Ψ pG0_1 pv0_1 p0.Conds) (ph0_2 : RSl RTAct 5 Ψ pG0_2 pv0_2 p0.Acts) {r : Bool} (h : m_s_RuleOk N p0 = some r) :
  CB w0 prog 11 [.agg [.string p0.Name, iV p0.Sal, pv0_0, pv0_1, pv0_2].toArray] (.bool r) := by
 refine eN func11 rfl ntmps11 rfl w0 fun hF => ?_
 unfold m_s_RuleOk at h
 refine sr <| lbx rfl fun b_1 => arr 5 [5] rfl <| kab h rfl rfl rfl (fun b z q => m_s_PosVars_ok N b p0 (ph0_0.y z) (ph0_1.y z) (ph0_2.y z) q) ?_
 rintro x1 h v1 Φ_1 F1 ⟨ap1, fr1, v2, rfl, rfl, h1⟩
 refine art 3 [] rfl <| WT.draw mixed (by kernel_rfl) (fun _ h => h.drew) <| aqq 2 [0, 0] rfl ?_
 obtain ⟨x2, hx2, h⟩ := bs h
 refine qp (p_call Fun_40 rfl (fun w1 hw => m_s_NameOk_ok N (ba hw.fro) p0.Name hx2)) rfl <| qq (q_move rfl) rfl ?_
 obtain ⟨b1, hb_1, h⟩ := bs h
 refine WQ.cutN 4 [(13, .bool b1), (1, pQ b_1), (3, v1)] ?_ (fun K => ?_)
 rotate_left
 ·refine WQ.split (d := 9) rfl (fun c1 => ?_) (fun c1 => ?_)
  ·replace hb_1 := ite_t hb_1 c1
   refine aqq 2 [1, 0] rfl <| WQ.yes rfl rfl ?_
   obtain ⟨x3, hx3, hb_1⟩ := bs hb_1
   refine qp (p_call Fun_41 rfl (fun w1 hw => m_s_l1In_ok N (ba hw.fro) p0.Sal (-100) 100 hx3)) rfl <| WQ.q (q_pick1 rfl rfl) rfl rfl rfl ?_
   cases hb_1
   exact kq K
  ·replace hb_1 := ite_f hb_1 c1
   refine aqq 4 [] rfl ?_
   cases hb_1
   exact kq K
 refine qq (q_move rfl) rfl ?_
 obtain ⟨b2, hb_2, h⟩ := bs h
 refine WQ.cutN 4 [(18, .bool b2), (1, pQ b_1), (3, v1)] ?_ (fun K => ?_)
 rotate_left
 ·refine WQ.split (d := 14) rfl (fun c2 => ?_) (fun c2 => ?_)
  ·replace hb_2 := ite_t hb_2 c2
   refine aqq 2 [2, 0] rfl <| WQ.yes rfl rfl ?_
   obtain ⟨x4, hx4, hb_2⟩ := bs hb_2
   refine qp (p_call Fun_42 rfl (fun w1 hw => m_s_l9Pats_ok N (ba hw.in0) p0.Pats ph0_0 hx4)) rfl <| WQ.q (q_pick1 rfl rfl) rfl rfl rfl ?_
   cases hb_2
   exact kq K
  ·replace hb_2 := ite_f hb_2 c2
   refine aqq 4 [] rfl ?_
   cases hb_2
   exact kq K
 refine qq (q_move rfl) rfl ?_
 obtain ⟨b3, hb_3, h⟩ := bs h
 refine WQ.cutN 5 [(24, .bool b3), (1, pQ b_1), (3, v1)] ?_ (fun K => ?_)
 rotate_left
 ·refine WQ.split (d := 19) rfl (fun c3 => ?_) (fun c3 => ?_)
  ·replace hb_3 := ite_t hb_3 c3
   refine aqq 3 [3, 0] rfl <| WQ.yes rfl rfl ?_
   obtain ⟨x5, hx5, hb_3⟩ := bs hb_3
   refine qp (p_call Fun_43 rfl (fun w1 hw => m_s_l9Conds_ok N (ba hw.fro) p0.Conds x1 (ph0_1.y hw.up) h1.rsl hx5)) rfl <| WQ.q (q_pick1 rfl rfl) rfl rfl rfl ?_
   cases hb_3
   exact kq K
  ·replace hb_3 := ite_f hb_3 c3
   refine aqq 5 [] rfl ?_
   cases hb_3
   exact kq K
 refine qq (q_move rfl) rfl ?_
 obtain ⟨b4, hb_4, h⟩ := bs h
 refine WQ.cutN 7 [(32, .bool b4)] ?_ (fun K => ?_)
 rotate_left
 ·refine WQ.split (d := 25) rfl (fun c4 => ?_) (fun c4 => ?_)
  ·replace hb_4 := ite_t hb_4 c4
   refine aqq 4 [4, 0, 5] rfl <| WQ.yes rfl rfl ?_
   obtain ⟨x6, hx6, hb_4⟩ := bs hb_4
   refine qp (p_call Fun_45 rfl (fun w1 hw => m_s_PosCount_ok N (ba hw.in0) p0 ph0_0 ph0_1 ph0_2 hx6)) rfl <| WQ.yes rfl rfl ?_
   obtain ⟨x7, hx7, hb_4⟩ := bs hb_4
   refine qp (p_call Fun_44 rfl (fun w1 hw => m_s_l9Acts_ok N (ba hw.fro) p0.Acts x1 x6 (ph0_2.y hw.up) h1.rsl hx7)) rfl <| WQ.q (q_pick1 rfl rfl) rfl rfl rfl ?_
   cases hb_4
   exact kq K
  ·replace hb_4 := ite_f hb_4 c4
   refine aqq 7 [] rfl ?_
   cases hb_4
   exact kq K
 refine aqt 2 [] rfl ?_
 exact rt hF h
theorem m_s_RuleAt_ok (w0 : Base Ψ Φ []) (p0 : TDef) (p1 : ByteArray) (ph0_0 : RSl RTRule 5 Ψ pG0_0 pv0_0 p0.Rules) {r : Int} (h : m_s_RuleAt N p0 p1 = some r) :
  CB w0 prog 53 [.agg [.string p0.Name, pv0_0].toArray, .string p1] (iV r) := by
 refine eN func53 rfl ntmps53 rfl w0 fun hF => ?_
 unfold m_s_RuleAt at h
 refine sr <| lbx rfl fun b_1 => art 8 [] rfl ?_
 refine lin (σ := Int) (fun s => [(1, .string p1), (2, pQ b_1), (5, iV s)]) (fun s => St w0 Φ [(b_1, .cells #[.string p0.Name, pv0_0] 38 (0, 0))] []) (fun m s => m_s_RuleAt_l1 N p0 p1 m s = some r) (0) N h (sx [] [0]) (fun n1 ih1 s hm => ?_)
 revert hm; revert s; intro s1 hm
 have h : m_s_RuleAt_l1 N p0 p1 (n1 + 1) s1 = some r := hm
 show WT _ _ [(1, .string p1), (2, pQ b_1), (5, iV s1)] (St w0 Φ [(b_1, .cells #[.string p0.Name, pv0_0] 38 (0, 0))] [])
 unfold m_s_RuleAt_l1 at h
 refine atr 6 [1, 0] rfl <| lnr ph0_0 rfl <| la rfl <| en ?_
 refine ch h rfl ?_ ?_ <;> intro h
 ·refine atr 8 [1, 0] rfl ?_
  obtain ⟨x1, hx1, h⟩ := bs h
  obtain ⟨cs1, F1, -, g1, hb1, hs1, r1⟩ := ph0_0.el (idx_some hx1).2.2
  obtain ⟨v1, G1, v2, G2, v3, G3, rfl, rfl, h1, h2, h3⟩ := r1
  refine lia ph0_0 hx1 rfl <| lf Fld_28_0 rfl rfl rfl <| lhx 0 0 g1 rfl <| art 3 [] rfl ?_
  refine ch h rfl ?_ ?_ <;> intro h
  ·refine att 5 [] rfl ?_
   exact rt hF h
  refine att 7 [] rfl ?_
  exact lb [] [0] (ih1 _ h)
 refine att 5 [] rfl ?_
 exact rt hF h
end Go.Proofs.YteipbimepilcfaaGreatDoor
