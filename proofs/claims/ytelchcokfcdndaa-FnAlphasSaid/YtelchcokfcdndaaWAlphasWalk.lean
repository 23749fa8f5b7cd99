/- Printed by a program of ours: each Go function computes its Lean function. -/
import Derived.Test.YtelchcokfcdndaaProg
import Derived.Test.YtelchcokfcdndaaWAlphasWalk1
namespace Go.Proofs.Ytelchcokfcdndaa
open Eng
open Go.RowKit (Below)
set_option linter.unusedVariables false
set_option linter.unusedSimpArgs false

set_option maxRecDepth 100000
set_option maxHeartbeats 1000000
theorem m_s_AlphaOf_ok {Φ : Hp} {w : World} (hΦ : In Φ w) (N : Nat) (p0 : TPat) {pv0_0 : Value} {pG0_0 : List Nat} (ph0_0 : RSl RTArg 5 Φ pG0_0 pv0_0 p0.Args) {r : TAlpha} (h : m_s_AlphaOf N p0 = some r) :
  Calls Try.prog 11 [.agg [.string p0.Kind, pv0_0, .bool p0.Not].toArray].toArray w (PostG Φ w [] (fun Φ' Fs v => ∃ (sr_0_0 : Value) (sr_0_1 : Value), v = .agg [.string r.Kind, .int .i64 r.N, sr_0_0, sr_0_1].toArray ∧ Fs = [ob sr_0_0, ob sr_0_1] ∧ OSl RTVal 51 3 Φ' [] sr_0_0 r.Consts ∧ OSl (RI .i64) 3 1 Φ' [] sr_0_1 r.At)) := by
 refine enter Try.func11 rfl Try.ntmps11 rfl (St.start0 hΦ) ?_
 have pa0_0 := Old.mk hΦ ph0_0.kn (Dj.empty _)
 revert pa0_0
 generalize hb0 : (⟨w, [], Φ⟩ : Base) = w0
 intro pa0_0
 unfold m_s_AlphaOf at h
 refine sr ?_
 refine ln (nb rfl) rfl (fun b_1 => ?_)
 refine ln (nz Zr_37) rfl (fun b_2 => ?_)
 refine en <| sr <| lf Fld_26_0 rfl rfl rfl <| lo T1_9 1 rfl <| lf Fld_26_1 rfl rfl rfl <| lo T1_24 1 rfl <| lq (q_lenR Sl_24 rfl rfl ph0_0) rfl <| lq (q_build (vs := [(0, .string p0.Kind), (1, .int .i64 (p0.Args.length : Int))]) (C := #[.string p0.Kind, .int .i64 (p0.Args.length : Int), .slice none 0 0, .slice none 0 0]) Pl_37 Zr_37 rfl (fill_cons (C' := [.string p0.Kind, .int .i64 0, .slice none 0 0, .slice none 0 0]) rfl rfl rfl rfl rfl (fill_cons (C' := [.string p0.Kind, .int .i64 (p0.Args.length : Int), .slice none 0 0, .slice none 0 0]) rfl rfl rfl rfl rfl (fill_nil)))) rfl ?_
 refine ln (nz Zr_37) rfl (fun b_3 => ?_)
 refine soN 0 Sz_37 rfl ⟨rfl, rfl, rfl, rfl, trivial⟩ rfl ?_
 refine en <| sq <| sr <| la rfl <| en <| blk <| WT.loop <| WT.conv (S' := St w0 Φ [(b_3, .cells #[.string p0.Kind, .int .i64 (p0.Args.length : Int), .slice none 0 0, .slice none 0 0] 37 (0, 0)), (b_2, .cells #[.string (⟨#[]⟩ : ByteArray), .int .i64 0, .slice none 0 0, .slice none 0 0] 37 (0, 0)), (b_1, .cells #[.string p0.Kind, pv0_0, .bool p0.Not] 26 (0, 0))] (ob (.slice none 0 0) :: [])) (fun w1 hw => hw.addNil) ?_
 have k1 := OSl.nil RTVal 51 3 Φ
 refine WT.conv (S' := St w0 Φ [(b_3, .cells #[.string p0.Kind, .int .i64 (p0.Args.length : Int), (.slice none 0 0), .slice none 0 0] 37 (0, 0)), (b_2, .cells #[.string (⟨#[]⟩ : ByteArray), .int .i64 0, .slice none 0 0, .slice none 0 0] 37 (0, 0)), (b_1, .cells #[.string p0.Kind, pv0_0, .bool p0.Not] 26 (0, 0))] (ob (.slice none 0 0) :: [ob (.slice none 0 0)])) (fun w1 hw => hw.addNil) ?_
 have k2 := OSl.nil (RI .i64) 3 1 Φ
 refine WT.mono (l' := [(1, .pointer (some ⟨b_1, 0, none⟩)), (2, .pointer (some ⟨b_2, 0, none⟩)), (3, .pointer (some ⟨b_3, 0, none⟩)), (4, .int .i64 0)]) (S' := St w0 Φ [(b_3, .cells #[.string p0.Kind, .int .i64 (p0.Args.length : Int), (.slice none 0 0), (.slice none 0 0)] 37 (0, 0)), (b_2, .cells #[.string (⟨#[]⟩ : ByteArray), .int .i64 0, .slice none 0 0, .slice none 0 0] 37 (0, 0)), (b_1, .cells #[.string p0.Kind, pv0_0, .bool p0.Not] 26 (0, 0))] [ob (.slice none 0 0), ob (.slice none 0 0)]) ⟨rfl, rfl, rfl, rfl, trivial⟩ (fun w1 hw => (hw.sel (js := [0, 0]) rfl).selO (js := [0, 0, 0]) rfl) ?_
 refine loop_ind (σ := Hp × (List TVal) × Value × (List Int) × Value × Int) (fun s => [(1, .pointer (some ⟨b_1, 0, none⟩)), (2, .pointer (some ⟨b_2, 0, none⟩)), (3, .pointer (some ⟨b_3, 0, none⟩)), (4, .int .i64 s.2.2.2.2.2)]) (fun s => St w0 s.1 [(b_3, .cells #[.string p0.Kind, .int .i64 (p0.Args.length : Int), s.2.2.1, s.2.2.2.2.1] 37 (0, 0)), (b_2, .cells #[.string (⟨#[]⟩ : ByteArray), .int .i64 0, .slice none 0 0, .slice none 0 0] 37 (0, 0)), (b_1, .cells #[.string p0.Kind, pv0_0, .bool p0.Not] 26 (0, 0))] [ob s.2.2.2.2.1, ob s.2.2.1]) (fun m s => m_s_AlphaOf_l1 N p0 m s.2.1 s.2.2.2.1 s.2.2.2.2.2 = some r ∧ (OSl RTVal 51 3 s.1 [] s.2.2.1 s.2.1) ∧ (OSl (RI .i64) 3 1 s.1 [] s.2.2.2.2.1 s.2.2.2.1) ∧ (RSl RTArg 5 s.1 pG0_0 pv0_0 p0.Args)) (fun s hm => none_ne (show (none : Option (TAlpha)) = some r from hm.1)) (fun n1 ih1 s hm => ?_) N (Φ, ([] : List TVal), (.slice none 0 0), ([] : List Int), (.slice none 0 0), 0) ⟨h, k1, k2, ph0_0⟩
 obtain ⟨Φ_1, s1, u1, s2, u2, s3⟩ := s
 obtain ⟨h, k3, k4, ph0_0⟩ := hm
 dsimp only at h k3 k4 ph0_0 ⊢
 unfold m_s_AlphaOf_l1 at h
 refine sq <| sr <| la rfl <| lf Fld_26_1 rfl rfl rfl <| lo T1_24 2 rfl <| lq (q_lenR Sl_24 rfl rfl ph0_0) rfl <| la rfl <| en ?_
 refine cdh rfl h (fun c1 h => ?_) (fun c1 h => ?_)
 ·refine WT.skip <| sq <| blk <| sr <| lf Fld_26_1 rfl rfl rfl <| lo T1_24 2 rfl <| la rfl ?_
  obtain ⟨x1, hx1, h⟩ := bs h
  obtain ⟨cs1, F1, -, g1, hb1, hs1, r1⟩ := ph0_0.el (idx_some hx1).2.2
  obtain ⟨rfl, -⟩ := r1
  refine lq (q_indexAddr Sl_24 rfl rfl ph0_0 hx1) rfl <| lf Fld_54_0 rfl rfl rfl <| lg 0 T1_3 g1 rfl rfl <| la rfl <| en ?_
  refine cdh rfl h (fun c2 h => ?_) (fun c2 h => ?_)
  ·refine sq <| WT.mix (Kn Φ_1 pG0_0 [(b_3, .cells #[.string p0.Kind, .int .i64 (p0.Args.length : Int), u1, u2] 37 (0, 0)), (b_2, .cells #[.string (⟨#[]⟩ : ByteArray), .int .i64 0, .slice none 0 0, .slice none 0 0] 37 (0, 0)), (b_1, .cells #[.string p0.Kind, pv0_0, .bool p0.Not] 26 (0, 0))]) (fun i => match i with | 11 => false | _ => true) mixed (fun _ h => h.drew) <| mq 0 rfl (by kernel_rfl) (kn Kf.id (ai3 0 1 2 rfl rfl rfl)) (q_fieldAddr Fld_37_2 rfl) rfl ?_
   refine mq 1 rfl (by kernel_rfl) (kn Kf.id (ai3 0 1 2 rfl rfl rfl)) (q_load1 T1_27 rfl (fun w1 hw => hw.rgO (i := 0) rfl 2 1 [u1] rfl)) rfl <| mq 2 rfl (by kernel_rfl) (kn Kf.id (ai3 0 1 2 rfl rfl rfl)) (q_fieldAddr Fld_26_1 rfl) rfl <| mq 3 rfl (by kernel_rfl) (kn Kf.id (ai3 0 1 2 rfl rfl rfl)) (q_load1 T1_24 rfl (fun w1 hw => hw.rgO (i := 2) rfl 1 1 [pv0_0] rfl)) rfl <| ma 4 rfl (by kernel_rfl) (kn Kf.id (ai3 0 1 2 rfl rfl rfl)) rfl ?_
   obtain ⟨x2, hx2, h⟩ := bs h
   obtain ⟨cs2, F2, -, g2, hb2, hs2, r2⟩ := ph0_0.el (idx_some hx2).2.2
   obtain ⟨rfl, -⟩ := r2
   refine mq 5 rfl (by kernel_rfl) (kn Kf.id (ai3 0 1 2 rfl rfl rfl)) (q_indexAddr Sl_24 rfl rfl ph0_0 hx2) rfl <| mq 6 rfl (by kernel_rfl) (kn Kf.id (ai3 0 1 2 rfl rfl rfl)) (q_fieldAddr Fld_54_2 rfl) rfl <| mq 7 rfl (by kernel_rfl) (kn Kf.id (ai3 0 1 2 rfl rfl rfl)) (q_loadN Tn_51 rfl (fun w1 hw => hw.rg hb2 (g2.of_eq 2 3 rfl rfl : rg _ _ _ [.int .i64 x2.V.K, .int .i64 x2.V.N, .string x2.V.S])) rfl) rfl ?_
   have rc1 : RC RTVal 3 Φ_1 ([[]] : List (List Nat)) [.int .i64 x2.V.K, .int .i64 x2.V.N, .string x2.V.S] ([x2.V] : List TVal) := RC.cons (c := [.int .i64 x2.V.K, .int .i64 x2.V.N, .string x2.V.S]) (cells := []) ⟨rfl, rfl⟩ rfl (RC.nil _ _ _)
   refine WM.one 8 (by kernel_rfl) (me rfl (fun _ v Φx D w1 hq hw => Kn.of (Kf.id.se hq.1) (ai3 0 1 2 rfl rfl rfl) hw) (e_lit (vs := [(0, .agg [.int .i64 x2.V.K, .int .i64 x2.V.N, .string x2.V.S].toArray)]) (C := #[.int .i64 x2.V.K, .int .i64 x2.V.N, .string x2.V.S]) RTVal.lasts Sl_27 Zr_51 rfl rfl rfl rfl (fill_made MC_51_1 (fill_cons (C' := [.int .i64 x2.V.K, .int .i64 x2.V.N, .string x2.V.S]) rfl rfl rfl rfl rfl (fill_nil))) rfl rc1 rfl (by simpa using Kw.nil)) rfl (fun v1 Φ_2 D1 q1 => ?_))
   obtain ⟨fr1, h1⟩ := q1
   replace h1 : OSl RTVal 51 3 Φ_2 [] v1 ([x2.V] : List TVal) := by simpa using h1
   replace ph0_0 := ph0_0.frame RTArg.lasts fr1 (Dj.empty _)
   replace k3 := k3.frame RTVal.lasts fr1 (Dj.empty _) (Dj.empty _)
   replace k4 := k4.frame RI.lasts fr1 (Dj.empty _) (Dj.empty _)
   obtain ⟨x3, hx3, h⟩ := bs h
   have kf1 := (Kf.id (F := pG0_0) : Kf Φ_1 _ _).se fr1
   refine WM.one 9 (by kernel_rfl) (me rfl (fun _ v Φx D w1 hq hw => Kn.of (kf1.st hq.1.2 (hq.1.1.o pa0_0)) (ai3 0 1 2 rfl rfl rfl) hw) (e_appF RTVal.lasts RTVal.one RTVal.flat Sl_27 Ei_51 rfl rfl rfl rfl rfl (js := [2]) (Rr := [ob v1, ob u2]) rfl k3 h1.rsl hx3) rfl (fun v2 Φ_3 D2 q2 => ?_))
   obtain ⟨⟨ap1, fr2⟩, h2⟩ := q2
   replace ph0_0 := ph0_0.frame RTArg.lasts fr2 (ap1.o pa0_0)
   replace k4 := k4.frame RI.lasts fr2 (ap1.r (i := 1) rfl) (Dj.nil _)
   have kf2 := kf1.st fr2 (ap1.o pa0_0)
   refine mq 10 rfl (by kernel_rfl) (kn kf2 (ai3 0 1 2 rfl rfl rfl)) (q_fieldAddr Fld_37_2 rfl) rfl ?_
   refine WM.one 11 (by kernel_rfl) (ms rfl (fun hc => by cases hc) (s_store (i := 0) (vs := [v2]) (C' := [.string p0.Kind, .int .i64 (p0.Args.length : Int), v2, u2]) (O' := [(b_3, .cells #[.string p0.Kind, .int .i64 (p0.Args.length : Int), v2, u2] 37 (0, 0)), (b_2, .cells #[.string (⟨#[]⟩ : ByteArray), .int .i64 0, .slice none 0 0, .slice none 0 0] 37 (0, 0)), (b_1, .cells #[.string p0.Kind, pv0_0, .bool p0.Not] 26 (0, 0))]) Sz_27 rfl rfl rfl (one_cells h2.one) rfl rfl ⟨h2.one, trivial⟩ rfl rfl) rfl ?_)
   refine WM.nil (by kernel_rfl) <| rgn <| lf Fld_37_3 rfl rfl rfl <| lo T1_35 0 rfl <| la rfl ?_
   have rc2 : RC (RI .i64) 1 Φ_3 ([[]] : List (List Nat)) [.int .i64 s3] ([s3] : List Int) := RC.cons (c := [.int .i64 s3]) (cells := []) ⟨rfl, rfl⟩ rfl (RC.nil _ _ _)
   refine le' (e_lit (vs := [(0, .int .i64 s3)]) (C := #[.int .i64 s3]) RI.lasts Sl_35 Zr_3 rfl rfl rfl rfl (fill_made MC_3_1 (fill_cons (C' := [.int .i64 s3]) rfl rfl rfl rfl rfl (fill_nil))) rfl rc2 rfl (by simpa using Kw.nil)) rfl (fun v3 Φ_4 D3 q3 => ?_)
   obtain ⟨fr3, h3⟩ := q3
   replace h3 : OSl (RI .i64) 3 1 Φ_4 [] v3 ([s3] : List Int) := by simpa using h3
   replace ph0_0 := ph0_0.frame RTArg.lasts fr3 (Dj.empty _)
   replace h2 := h2.frame RTVal.lasts fr3 (Dj.empty _) (Dj.empty _)
   replace k4 := k4.frame RI.lasts fr3 (Dj.empty _) (Dj.empty _)
   obtain ⟨x4, hx4, h⟩ := bs h
   refine le' (e_appF RI.lasts RI.one RI.flat Sl_35 Ei_3 rfl rfl rfl rfl rfl (js := [3]) (Rr := [ob v3, ob v2, ob v1]) rfl k4 h3.rsl hx4) rfl (fun v4 Φ_5 D4 q4 => ?_)
   obtain ⟨⟨ap2, fr4⟩, h4⟩ := q4
   replace ph0_0 := ph0_0.frame RTArg.lasts fr4 (ap2.o pa0_0)
   replace h2 := h2.frame RTVal.lasts fr4 (ap2.r (i := 1) rfl) (Dj.nil _)
   refine lf Fld_37_3 rfl rfl rfl <| so1 0 Sz_35 rfl h4.one ?_
   refine en <| ib <| rgn <| la rfl <| la rfl <| la rfl <| en ?_
   exact lback (ih1 (Φ_5, x3, v2, x4, v4, IntKind.i64.wrap (s3 + 1)) ⟨h, h2, h4, ph0_0⟩) ⟨rfl, rfl, rfl, rfl, trivial⟩ (fun w1 hw => (hw.sel (js := [0, 1]) rfl).selO (js := [0, 0, 0]) rfl)
  refine WT.skip <| ib <| rgn <| la rfl <| la rfl <| la rfl <| en ?_
  exact lback (ih1 (Φ_1, s1, u1, s2, u2, IntKind.i64.wrap (s3 + 1)) ⟨h, k3, k4, ph0_0⟩) ⟨rfl, rfl, rfl, rfl, trivial⟩ (fun w1 hw => (hw.sel (js := [0, 0]) rfl).selO (js := [0, 0, 0]) rfl)
 refine xt rfl <| sr <| ld4 Tn_37 0 rfl <| soN 1 Sz_37 rfl ⟨rfl, rfl, k3.one, k4.one, trivial⟩ rfl ?_
 refine en ?_
 refine WT.ret Try.func11 (resOk.one (rv_cell Tn_37 rfl (fun w1 hw => hw.rgO (i := 1) rfl 0 4 [.string p0.Kind, .int .i64 (p0.Args.length : Int), u1, u2] rfl) rfl)) (fun w1 hw => ?_)
 subst hb0
 cases h
 refine postG_of_St (js := [1, 0]) hw rfl ⟨u1, u2, rfl, rfl, k3, k4⟩
theorem m_s_DrawSameAlpha_ok {Φ : Hp} {w : World} (hΦ : In Φ w) (N : Nat) (p0 : (List Int)) {pv0 : Value} {pG0 : List Nat} (ph0 : RSl (RI .u8) 1 Φ pG0 pv0 p0) {r : TAlpha × TAlpha} (h : m_s_DrawSameAlpha N p0 = some r) :
  Calls Try.prog 8 [pv0].toArray w (PostG Φ w [] (fun Φ' Fs v => ∃ (sr_0_0 : Value) (Gr_0_0 : List Nat) (sr_0_1 : Value) (Gr_0_1 : List Nat) (sr_1_0 : Value) (Gr_1_0 : List Nat) (sr_1_1 : Value) (Gr_1_1 : List Nat) (X : List Nat), v = .tuple #[.agg [.string r.1.Kind, .int .i64 r.1.N, sr_0_0, sr_0_1].toArray, .agg [.string r.2.Kind, .int .i64 r.2.N, sr_1_0, sr_1_1].toArray] ∧ Fs = [X] ∧ RSl RTVal 3 Φ' Gr_0_0 sr_0_0 r.1.Consts ∧ (∀ k ∈ Gr_0_0, k ∈ X) ∧ RSl (RI .i64) 1 Φ' Gr_0_1 sr_0_1 r.1.At ∧ (∀ k ∈ Gr_0_1, k ∈ X) ∧ RSl RTVal 3 Φ' Gr_1_0 sr_1_0 r.2.Consts ∧ (∀ k ∈ Gr_1_0, k ∈ X) ∧ RSl (RI .i64) 1 Φ' Gr_1_1 sr_1_1 r.2.At ∧ (∀ k ∈ Gr_1_1, k ∈ X))) := by
 refine enter Try.func8 rfl Try.ntmps8 rfl (St.start0 hΦ) ?_
 have pa0 := Old.mk hΦ ph0.kn (Dj.empty _)
 unfold m_s_DrawSameAlpha at h
 refine sr ?_
 refine ln (nz Zr_37) rfl (fun b_1 => ?_)
 refine ln (nz Zr_37) rfl (fun b_2 => ?_)
 refine en <| sr <| la rfl ?_
 obtain ⟨x1, hx1, h⟩ := bs h
 refine lc (k_call (js := []) (R := []) Fun_15 rfl rfl (fun w1 hw ap hl => m_s_l1New_ok hw.fro N p0 ph0  hx1)) rfl (fun v1 Φ_1 F1 q1 => ?_)
 obtain ⟨ap1, fr1, b_3, v2, G1, rfl, rfl, h1, i1, h2⟩ := q1
 refine la rfl <| en <| sr <| la rfl ?_
 obtain ⟨x2, hx2, h⟩ := bs h
 refine lc (k_call (js := [0]) (R := []) Fun_20 rfl rfl (fun w1 hw ap hl => m_s_l6Any_ok hw.fro N x1 h1 h2 (Dj.sub (ap.o pa0) i1) ap.nd hl hx2)) rfl (fun v3 Φ_2 F2 q2 => ?_)
 obtain ⟨ap2, fr2, v4, rfl, rfl, h3, e1, h4⟩ := q2
 replace h1 := h1.frame RI.lasts fr2 (Dj.sub (ap2.o pa0) i1)
 obtain ⟨x3, hx3, h⟩ := bs h
 refine lc (k_call (js := []) (R := [ob v4, [b_3]]) Fun_11 rfl rfl (fun w1 hw ap hl => m_s_AlphaOf_ok hw.fro N x2.1 h3.rsl  hx3)) rfl (fun v5 Φ_3 F3 q3 => ?_)
 obtain ⟨ap3, fr3, v6, v7, rfl, rfl, h5, h6⟩ := q3
 replace h1 := h1.frame RI.lasts fr3 (Dj.sub (ap3.o pa0) i1)
 replace h4 := fr3 _ _ ((ap3.r (i := 1) rfl) _ (by simp)) h4
 refine ln (nz Zr_37) rfl (fun b_4 => ?_)
 refine soN 0 Sz_37 rfl ⟨rfl, rfl, h5.one, h6.one, trivial⟩ rfl ?_
 refine en <| sq <| sr <| la rfl ?_
 obtain ⟨x4, hx4, h⟩ := bs h
 refine lc (k_call (js := [3]) (R := [ob v6, ob v7, ob v4]) Fun_18 rfl rfl (fun w1 hw ap hl => m_s_l1Once_ok hw.fro N (⟨x1.b, x2.2.i, x2.2.h⟩ : Tl1Cur) 3 h1 h4 (Dj.sub (ap.o pa0) i1) ap.nd hl hx4)) rfl (fun v8 Φ_4 F4 q4 => ?_)
 obtain ⟨ap4, fr4, rfl, rfl, e2, h7⟩ := q4
 replace h1 := h1.frame RI.lasts fr4 (Dj.sub (ap4.o pa0) i1)
 replace h5 := h5.frame RTVal.lasts fr4 (ap4.r (i := 0) rfl) (Dj.nil _)
 replace h6 := h6.frame RI.lasts fr4 (ap4.r (i := 1) rfl) (Dj.nil _)
 refine en ?_
 refine cdh rfl h (fun c1 h => ?_) (fun c1 h => ?_)
 ·refine sq <| WT.mix (Kn Φ_4 [] [(b_4, .cells #[.string x3.Kind, .int .i64 x3.N, v6, v7] 37 (0, 0)), (b_2, .cells #[.string (⟨#[]⟩ : ByteArray), .int .i64 0, .slice none 0 0, .slice none 0 0] 37 (0, 0))]) (fun i => match i with | 3 => false | _ => true) mixed (fun _ h => h.drew) <| mq 0 rfl (by kernel_rfl) (kn Kf.nil (ai2 0 1 rfl rfl)) (q_loadN Tn_37 rfl (fun w1 hw => hw.rgO (i := 0) rfl 0 4 [.string x3.Kind, .int .i64 x3.N, v6, v7] rfl) rfl) rfl ?_
  refine mq 1 rfl (by kernel_rfl) (kn Kf.nil (ai2 0 1 rfl rfl)) (q_loadN Tn_37 rfl (fun w1 hw => hw.rgO (i := 0) rfl 0 4 [.string x3.Kind, .int .i64 x3.N, v6, v7] rfl) rfl) rfl ?_
  refine WM.one 2 (by kernel_rfl) (ms rfl (fun _ w1 hw => Kn.of Kf.nil (ai2 0 1 rfl rfl) hw) (s_store (i := 2) (vs := [.string x3.Kind, .int .i64 x3.N, v6, v7]) (C' := [.string x3.Kind, .int .i64 x3.N, v6, v7]) (O' := [(b_4, .cells #[.string x3.Kind, .int .i64 x3.N, v6, v7] 37 (0, 0)), (b_2, .cells #[.string (⟨#[]⟩ : ByteArray), .int .i64 0, .slice none 0 0, .slice none 0 0] 37 (0, 0)), (b_1, .cells #[.string x3.Kind, .int .i64 x3.N, v6, v7] 37 (0, 0))]) Sz_37 rfl rfl rfl rfl rfl rfl ⟨rfl, rfl, h5.one, h6.one, trivial⟩ rfl rfl) rfl ?_)
  refine WM.one 3 (by kernel_rfl) (ms rfl (fun hc => by cases hc) (s_store (i := 1) (vs := [.string x3.Kind, .int .i64 x3.N, v6, v7]) (C' := [.string x3.Kind, .int .i64 x3.N, v6, v7]) (O' := [(b_4, .cells #[.string x3.Kind, .int .i64 x3.N, v6, v7] 37 (0, 0)), (b_2, .cells #[.string x3.Kind, .int .i64 x3.N, v6, v7] 37 (0, 0)), (b_1, .cells #[.string x3.Kind, .int .i64 x3.N, v6, v7] 37 (0, 0))]) Sz_37 rfl rfl rfl rfl rfl rfl ⟨rfl, rfl, h5.one, h6.one, trivial⟩ rfl rfl) rfl ?_)
  refine WM.nil (by kernel_rfl) ?_
  refine WT.ret Try.func8 (resOk.two (rv_cell Tn_37 rfl (fun w1 hw => hw.rgO (i := 2) rfl 0 4 [.string x3.Kind, .int .i64 x3.N, v6, v7] rfl) rfl) (rv_cell Tn_37 rfl (fun w1 hw => hw.rgO (i := 1) rfl 0 4 [.string x3.Kind, .int .i64 x3.N, v6, v7] rfl) rfl)) (fun w1 hw => ?_)
  cases h
  replace hw := hw.merge (js := [1, 1]) (F := [ob v6, ob v7].flatten) rfl (SP.eq (by simp))
  refine postG_of_St (js := [0]) hw rfl ⟨v6, (ob v6 ++ []), v7, (ob v7 ++ []), v6, (ob v6 ++ []), v7, (ob v7 ++ []), [ob v6, ob v7].flatten, rfl, rfl, h5.rsl, (fun k hk => (List.mem_flatten.2 ⟨ob v6, by simp, (apnil k hk)⟩)), h6.rsl, (fun k hk => (List.mem_flatten.2 ⟨ob v7, by simp, (apnil k hk)⟩)), h5.rsl, (fun k hk => (List.mem_flatten.2 ⟨ob v6, by simp, (apnil k hk)⟩)), h6.rsl, (fun k hk => (List.mem_flatten.2 ⟨ob v7, by simp, (apnil k hk)⟩))⟩
 refine WT.skip <| sq <| WT.mix (Kn Φ_4 [] [(b_4, .cells #[.string x3.Kind, .int .i64 x3.N, v6, v7] 37 (0, 0)), (b_2, .cells #[.string (⟨#[]⟩ : ByteArray), .int .i64 0, .slice none 0 0, .slice none 0 0] 37 (0, 0))]) (fun i => match i with | 5 => false | _ => true) mixed (fun _ h => h.drew) <| mq 0 rfl (by kernel_rfl) (kn Kf.nil (ai2 0 1 rfl rfl)) (q_loadN Tn_37 rfl (fun w1 hw => hw.rgO (i := 0) rfl 0 4 [.string x3.Kind, .int .i64 x3.N, v6, v7] rfl) rfl) rfl ?_
 refine ma 1 rfl (by kernel_rfl) (kn Kf.nil (ai2 0 1 rfl rfl)) rfl ?_
 obtain ⟨x5, hx5, h⟩ := bs h
 refine WM.one 2 (by kernel_rfl) (mc rfl (fun _ v Φx D w1 hq hw => Kn.of Kf.nil (ai2 0 1 rfl rfl) hw) (k_call (js := [0]) (R := [ob v6, ob v7, ob v4]) Fun_20 rfl rfl (fun w1 hw ap hl => m_s_l6Any_ok hw.fro N (⟨x1.b, x4.2.i, x4.2.h⟩ : Tl1Cur) h1 h7 (Dj.sub (ap.o pa0) i1) ap.nd hl hx5)) rfl (fun v9 Φ_5 F5 q5 => ?_))
 obtain ⟨ap5, fr5, v10, rfl, rfl, h8, e3, h9⟩ := q5
 replace h5 := h5.frame RTVal.lasts fr5 (ap5.r (i := 0) rfl) (Dj.nil _)
 replace h6 := h6.frame RI.lasts fr5 (ap5.r (i := 1) rfl) (Dj.nil _)
 obtain ⟨x6, hx6, h⟩ := bs h
 refine WM.one 3 (by kernel_rfl) (mc rfl (fun _ v Φx D w1 hq hw => Kn.of Kf.nil (ai2 0 1 rfl rfl) hw) (k_call (js := []) (R := [ob v10, [b_3], ob v6, ob v7, ob v4]) Fun_11 rfl rfl (fun w1 hw ap hl => m_s_AlphaOf_ok hw.fro N x5.1 h8.rsl  hx6)) rfl (fun v11 Φ_6 F6 q6 => ?_))
 obtain ⟨ap6, fr6, v12, v13, rfl, rfl, h10, h11⟩ := q6
 replace h5 := h5.frame RTVal.lasts fr6 (ap6.r (i := 2) rfl) (Dj.nil _)
 replace h6 := h6.frame RI.lasts fr6 (ap6.r (i := 3) rfl) (Dj.nil _)
 refine WM.one 4 (by kernel_rfl) (ms rfl (fun _ w1 hw => Kn.of Kf.nil (ai2 0 1 rfl rfl) hw) (s_store (i := 2) (vs := [.string x3.Kind, .int .i64 x3.N, v6, v7]) (C' := [.string x3.Kind, .int .i64 x3.N, v6, v7]) (O' := [(b_4, .cells #[.string x3.Kind, .int .i64 x3.N, v6, v7] 37 (0, 0)), (b_2, .cells #[.string (⟨#[]⟩ : ByteArray), .int .i64 0, .slice none 0 0, .slice none 0 0] 37 (0, 0)), (b_1, .cells #[.string x3.Kind, .int .i64 x3.N, v6, v7] 37 (0, 0))]) Sz_37 rfl rfl rfl rfl rfl rfl ⟨rfl, rfl, h5.one, h6.one, trivial⟩ rfl rfl) rfl ?_)
 refine WM.one 5 (by kernel_rfl) (ms rfl (fun hc => by cases hc) (s_store (i := 1) (vs := [.string x6.Kind, .int .i64 x6.N, v12, v13]) (C' := [.string x6.Kind, .int .i64 x6.N, v12, v13]) (O' := [(b_4, .cells #[.string x3.Kind, .int .i64 x3.N, v6, v7] 37 (0, 0)), (b_2, .cells #[.string x6.Kind, .int .i64 x6.N, v12, v13] 37 (0, 0)), (b_1, .cells #[.string x3.Kind, .int .i64 x3.N, v6, v7] 37 (0, 0))]) Sz_37 rfl rfl rfl rfl rfl rfl ⟨rfl, rfl, h10.one, h11.one, trivial⟩ rfl rfl) rfl ?_)
 refine WM.nil (by kernel_rfl) ?_
 refine WT.ret Try.func8 (resOk.two (rv_cell Tn_37 rfl (fun w1 hw => hw.rgO (i := 2) rfl 0 4 [.string x3.Kind, .int .i64 x3.N, v6, v7] rfl) rfl) (rv_cell Tn_37 rfl (fun w1 hw => hw.rgO (i := 1) rfl 0 4 [.string x6.Kind, .int .i64 x6.N, v12, v13] rfl) rfl)) (fun w1 hw => ?_)
 cases h
 replace hw := hw.merge (js := [4, 4, 0, 0]) (F := [ob v6, ob v7, ob v12, ob v13].flatten) rfl (SP.eq (by simp))
 refine postG_of_St (js := [0]) hw rfl ⟨v6, (ob v6 ++ []), v7, (ob v7 ++ []), v12, (ob v12 ++ []), v13, (ob v13 ++ []), [ob v6, ob v7, ob v12, ob v13].flatten, rfl, rfl, h5.rsl, (fun k hk => (List.mem_flatten.2 ⟨ob v6, by simp, (apnil k hk)⟩)), h6.rsl, (fun k hk => (List.mem_flatten.2 ⟨ob v7, by simp, (apnil k hk)⟩)), h10.rsl, (fun k hk => (List.mem_flatten.2 ⟨ob v12, by simp, (apnil k hk)⟩)), h11.rsl, (fun k hk => (List.mem_flatten.2 ⟨ob v13, by simp, (apnil k hk)⟩))⟩
theorem m_s_DrawFitting_ok {Φ : Hp} {w : World} (hΦ : In Φ w) (N : Nat) (p0 : (List Int)) {pv0 : Value} {pG0 : List Nat} (ph0 : RSl (RI .u8) 1 Φ pG0 pv0 p0) {r : TPat × TFact × (List TBind)} (h : m_s_DrawFitting N p0 = some r) :
  Calls Try.prog 24 [pv0].toArray w (PostG Φ w [] (fun Φ' Fs v => ∃ (sr_0_0 : Value) (sr_1_0 : Value) (sr_2_0 : Value), v = .tuple #[.agg [.string r.1.Kind, sr_0_0, .bool r.1.Not].toArray, .agg [.string r.2.1.Kind, sr_1_0].toArray, sr_2_0] ∧ Fs = [ob sr_0_0, ob sr_1_0, ob sr_2_0] ∧ OSl RTArg 54 5 Φ' [] sr_0_0 r.1.Args ∧ OSl RTVal 51 3 Φ' [] sr_1_0 r.2.1.Fields ∧ OSl RTBind 59 4 Φ' [] sr_2_0 r.2.2)) := by
 refine enter Try.func24 rfl Try.ntmps24 rfl (St.start0 hΦ) ?_
 have pa0 := Old.mk hΦ ph0.kn (Dj.empty _)
 revert pa0
 generalize hb0 : (⟨w, [], Φ⟩ : Base) = w0
 intro pa0
 unfold m_s_DrawFitting at h
 refine sr ?_
 refine ln (nz Zr_26) rfl (fun b_1 => ?_)
 refine ln (nz Zr_29) rfl (fun b_2 => ?_)
 refine la rfl <| en <| sr <| la rfl ?_
 obtain ⟨x1, hx1, h⟩ := bs h
 refine lc (k_call (js := []) (R := []) Fun_15 rfl rfl (fun w1 hw ap hl => m_s_l1New_ok hw.fro N p0 ph0  hx1)) rfl (fun v1 Φ_1 F1 q1 => ?_)
 obtain ⟨ap1, fr1, b_3, v2, G1, rfl, rfl, h1, i1, h2⟩ := q1
 refine la rfl <| en <| sr <| la rfl ?_
 obtain ⟨x2, hx2, h⟩ := bs h
 refine lc (k_call (js := [0]) (R := []) Fun_16 rfl rfl (fun w1 hw ap hl => m_s_l6Draw_ok hw.fro N x1 false h1 h2 (Dj.sub (ap.o pa0) i1) ap.nd hl hx2)) rfl (fun v3 Φ_2 F2 q2 => ?_)
 obtain ⟨ap2, fr2, v4, rfl, rfl, h3, e1, h4⟩ := q2
 replace h1 := h1.frame RI.lasts fr2 (Dj.sub (ap2.o pa0) i1)
 refine ln (nz Zr_26) rfl (fun b_4 => ?_)
 refine soN 0 Sz_26 rfl ⟨rfl, h3.one, rfl, trivial⟩ rfl ?_
 refine en <| sr <| lf Fld_26_0 rfl rfl rfl <| lo T1_9 0 rfl <| lq (q_build (vs := [(0, .string x2.1.Kind)]) (C := #[.string x2.1.Kind, .slice none 0 0]) Pl_29 Zr_29 rfl (fill_cons (C' := [.string x2.1.Kind, .slice none 0 0]) rfl rfl rfl rfl rfl (fill_nil))) rfl ?_
 refine ln (nz Zr_29) rfl (fun b_5 => ?_)
 refine soN 0 Sz_29 rfl ⟨rfl, rfl, trivial⟩ rfl ?_
 refine en <| sq <| sr <| la rfl <| en <| blk <| WT.loop <| WT.conv (S' := St w0 Φ_2 [(b_5, .cells #[.string x2.1.Kind, .slice none 0 0] 29 (0, 0)), (b_4, .cells #[.string x2.1.Kind, v4, .bool x2.1.Not] 26 (0, 0)), (b_2, .cells #[.string (⟨#[]⟩ : ByteArray), .slice none 0 0] 29 (0, 0)), (b_1, .cells #[.string (⟨#[]⟩ : ByteArray), .slice none 0 0, .bool false] 26 (0, 0))] (ob (.slice none 0 0) :: [ob v4, [b_3]])) (fun w1 hw => hw.addNil) ?_
 have k1 := OSl.nil RTVal 51 3 Φ_2
 refine WT.mono (l' := [(2, .pointer (some ⟨b_1, 0, none⟩)), (3, .pointer (some ⟨b_2, 0, none⟩)), (5, .pointer (some ⟨b_3, 0, none⟩)), (6, .pointer (some ⟨b_4, 0, none⟩)), (7, .pointer (some ⟨b_5, 0, none⟩)), (8, .int .i64 0)]) (S' := St w0 Φ_2 [(b_5, .cells #[.string x2.1.Kind, (.slice none 0 0)] 29 (0, 0)), (b_4, .cells #[.string x2.1.Kind, v4, .bool x2.1.Not] 26 (0, 0)), (b_2, .cells #[.string (⟨#[]⟩ : ByteArray), .slice none 0 0] 29 (0, 0)), (b_1, .cells #[.string (⟨#[]⟩ : ByteArray), .slice none 0 0, .bool false] 26 (0, 0))] [ob (.slice none 0 0), ob v4, [b_3]]) ⟨rfl, rfl, rfl, rfl, rfl, rfl, trivial⟩ (fun w1 hw => (hw.sel (js := [0, 0, 0]) rfl).selO (js := [0, 0, 0, 0]) rfl) ?_
 refine loop_ind (σ := Hp × (List TVal) × Value × Int × Int × Int) (fun s => [(2, .pointer (some ⟨b_1, 0, none⟩)), (3, .pointer (some ⟨b_2, 0, none⟩)), (5, .pointer (some ⟨b_3, 0, none⟩)), (6, .pointer (some ⟨b_4, 0, none⟩)), (7, .pointer (some ⟨b_5, 0, none⟩)), (8, .int .i64 s.2.2.2.1)]) (fun s => St w0 s.1 [(b_5, .cells #[.string x2.1.Kind, s.2.2.1] 29 (0, 0)), (b_4, .cells #[.string x2.1.Kind, v4, .bool x2.1.Not] 26 (0, 0)), (b_2, .cells #[.string (⟨#[]⟩ : ByteArray), .slice none 0 0] 29 (0, 0)), (b_1, .cells #[.string (⟨#[]⟩ : ByteArray), .slice none 0 0, .bool false] 26 (0, 0))] [ob s.2.2.1, ob v4, [b_3]]) (fun m s => m_s_DrawFitting_l1 N x1 x2 m s.2.1 s.2.2.2.1 s.2.2.2.2.1 s.2.2.2.2.2 = some r ∧ (OSl RTArg 54 5 s.1 [] v4 x2.1.Args) ∧ (OSl RTVal 51 3 s.1 [] s.2.2.1 s.2.1) ∧ (s.1 b_3 = some (.cells #[v2, .int .i64 s.2.2.2.2.1, .int .i64 s.2.2.2.2.2] 67 (0, 0))) ∧ (RSl (RI .u8) 1 s.1 G1 v2 x1.b)) (fun s hm => none_ne (show (none : Option (TPat × TFact × (List TBind))) = some r from hm.1)) (fun n1 ih1 s hm => ?_) N (Φ_2, ([] : List TVal), (.slice none 0 0), 0, x2.2.i, x2.2.h) ⟨h, h3, k1, h4, h1⟩
 obtain ⟨Φ_3, s1, u1, s2, s3, s4⟩ := s
 obtain ⟨h, h3, k2, k3, h1⟩ := hm
 dsimp only at h h3 k2 k3 h1 ⊢
 unfold m_s_DrawFitting_l1 at h
 refine sq <| sr <| la rfl <| lf Fld_26_1 rfl rfl rfl <| lo T1_24 1 rfl <| lq (q_lenR Sl_24 rfl rfl h3.rsl) rfl <| la rfl <| en ?_
 refine cdh rfl h (fun c1 h => ?_) (fun c1 h => ?_)
 ·refine WT.skip <| sq <| blk <| sr <| la rfl ?_
  obtain ⟨x3, hx3, h⟩ := bs h
  refine lc (k_call (js := [2]) (R := [ob u1, ob v4]) Fun_19 rfl rfl (fun w1 hw ap hl => m_s_l3Small_ok hw.fro N (⟨x1.b, s3, s4⟩ : Tl1Cur) h1 k3 (Dj.sub (ap.o pa0) i1) ap.nd hl hx3)) rfl (fun v5 Φ_4 F3 q3 => ?_)
  obtain ⟨ap3, fr3, rfl, rfl, e2, h5⟩ := q3
  replace h1 := h1.frame RI.lasts fr3 (Dj.sub (ap3.o pa0) i1)
  replace h3 := h3.frame RTArg.lasts fr3 (ap3.r (i := 1) rfl) (Dj.nil _)
  replace k2 := k2.frame RTVal.lasts fr3 (ap3.r (i := 0) rfl) (Dj.nil _)
  refine ln (nz Zr_51) rfl (fun b_6 => ?_)
  refine soN 0 Sz_51 rfl ⟨rfl, rfl, rfl, trivial⟩ rfl ?_
  refine en <| sq <| sr <| lf Fld_26_1 rfl rfl rfl <| lo T1_24 2 rfl <| la rfl ?_
  obtain ⟨x4, hx4, h⟩ := bs h
  obtain ⟨cs1, F4, -, g1, hb1, hs1, r1⟩ := h3.elS (idx_some hx4).2.2
  obtain ⟨rfl, -⟩ := r1
  refine lq (q_indexAddr Sl_24 rfl rfl h3.rsl hx4) rfl <| lf Fld_54_0 rfl rfl rfl <| lg 0 T1_3 g1 rfl rfl <| la rfl <| en ?_
  refine cut (σ := Int × Int × ByteArray) (fun s => [(2, .pointer (some ⟨b_1, 0, none⟩)), (3, .pointer (some ⟨b_2, 0, none⟩)), (5, .pointer (some ⟨b_3, 0, none⟩)), (6, .pointer (some ⟨b_4, 0, none⟩)), (7, .pointer (some ⟨b_5, 0, none⟩)), (8, .int .i64 s2), (9, .pointer (some ⟨b_6, 0, none⟩))]) (fun s => St w0 Φ_4 [(b_6, .cells #[.int .i64 s.1, .int .i64 s.2.1, .string s.2.2] 51 (0, 0)), (b_5, .cells #[.string x2.1.Kind, u1] 29 (0, 0)), (b_4, .cells #[.string x2.1.Kind, v4, .bool x2.1.Not] 26 (0, 0)), (b_2, .cells #[.string (⟨#[]⟩ : ByteArray), .slice none 0 0] 29 (0, 0)), (b_1, .cells #[.string (⟨#[]⟩ : ByteArray), .slice none 0 0, .bool false] 26 (0, 0))] [[b_3], ob u1, ob v4]) (fun s => m_s_DrawFitting_j2 N s1 s2 (m_s_DrawFitting_l1 N x1 x2 n1) x3 s.1 s.2.1 s.2.2 = some r) (fun s hm => ?_) (fun K => ?_)
  ·clear h
   obtain ⟨s5, s6, s7⟩ := s
   have h : m_s_DrawFitting_j2 N s1 s2 (m_s_DrawFitting_l1 N x1 x2 n1) x3 s5 s6 s7 = some r := hm
   show WT _ _ [(2, .pointer (some ⟨b_1, 0, none⟩)), (3, .pointer (some ⟨b_2, 0, none⟩)), (5, .pointer (some ⟨b_3, 0, none⟩)), (6, .pointer (some ⟨b_4, 0, none⟩)), (7, .pointer (some ⟨b_5, 0, none⟩)), (8, .int .i64 s2), (9, .pointer (some ⟨b_6, 0, none⟩))] (St w0 Φ_4 [(b_6, .cells #[.int .i64 s5, .int .i64 s6, .string s7] 51 (0, 0)), (b_5, .cells #[.string x2.1.Kind, u1] 29 (0, 0)), (b_4, .cells #[.string x2.1.Kind, v4, .bool x2.1.Not] 26 (0, 0)), (b_2, .cells #[.string (⟨#[]⟩ : ByteArray), .slice none 0 0] 29 (0, 0)), (b_1, .cells #[.string (⟨#[]⟩ : ByteArray), .slice none 0 0, .bool false] 26 (0, 0))] [[b_3], ob u1, ob v4])
   unfold m_s_DrawFitting_j2 at h
   refine rgn <| lf Fld_29_1 rfl rfl rfl <| lo T1_27 1 rfl <| ld3 Tn_51 0 rfl ?_
   have rc1 : RC RTVal 3 Φ_4 ([[]] : List (List Nat)) [.int .i64 s5, .int .i64 s6, .string s7] ([(⟨s5, s6, s7⟩ : TVal)] : List TVal) := RC.cons (c := [.int .i64 s5, .int .i64 s6, .string s7]) (cells := []) ⟨rfl, rfl⟩ rfl (RC.nil _ _ _)
   refine le' (e_lit (vs := [(0, .agg [.int .i64 s5, .int .i64 s6, .string s7].toArray)]) (C := #[.int .i64 s5, .int .i64 s6, .string s7]) RTVal.lasts Sl_27 Zr_51 rfl rfl rfl rfl (fill_made MC_51_1 (fill_cons (C' := [.int .i64 s5, .int .i64 s6, .string s7]) rfl rfl rfl rfl rfl (fill_nil))) rfl rc1 rfl (by simpa using Kw.nil)) rfl (fun v6 Φ_5 D1 q4 => ?_)
   obtain ⟨fr4, h6⟩ := q4
   replace h6 : OSl RTVal 51 3 Φ_5 [] v6 ([(⟨s5, s6, s7⟩ : TVal)] : List TVal) := by simpa using h6
   replace h1 := h1.frame RI.lasts fr4 (Dj.empty _)
   replace h3 := h3.frame RTArg.lasts fr4 (Dj.empty _) (Dj.empty _)
   replace k2 := k2.frame RTVal.lasts fr4 (Dj.empty _) (Dj.empty _)
   replace h5 := fr4 _ _ (by simp) h5
   obtain ⟨x5, hx5, h⟩ := bs h
   refine le' (e_appF RTVal.lasts RTVal.one RTVal.flat Sl_27 Ei_51 rfl rfl rfl rfl rfl (js := [2]) (Rr := [ob v6, [b_3], ob v4]) rfl k2 h6.rsl hx5) rfl (fun v7 Φ_6 D2 q5 => ?_)
   obtain ⟨⟨ap4, fr5⟩, h7⟩ := q5
   replace h1 := h1.frame RI.lasts fr5 (Dj.sub (ap4.o pa0) i1)
   replace h3 := h3.frame RTArg.lasts fr5 (ap4.r (i := 2) rfl) (Dj.nil _)
   replace h5 := fr5 _ _ ((ap4.r (i := 1) rfl) _ (by simp)) h5
   refine lf Fld_29_1 rfl rfl rfl <| so1 1 Sz_27 rfl h7.one ?_
   refine en <| ib <| rgn <| la rfl <| la rfl <| la rfl <| en ?_
   exact lback (ih1 (Φ_6, x5, v7, IntKind.i64.wrap (s2 + 1), x3.2.i, x3.2.h) ⟨h, h3, h7, h5, h1⟩) ⟨rfl, rfl, rfl, rfl, rfl, rfl, trivial⟩ (fun w1 hw => (hw.sel (js := [0, 2, 1]) rfl).selO (js := [1, 1, 1, 1]) rfl)
  refine cdh rfl h (fun c2 h => ?_) (fun c2 h => ?_)
  ·refine rgn <| lf Fld_26_1 rfl rfl rfl <| lo T1_24 2 rfl <| la rfl ?_
   obtain ⟨x6, hx6, h⟩ := bs h
   obtain ⟨cs2, F5, -, g2, hb2, hs2, r2⟩ := h3.elS (idx_some hx6).2.2
   obtain ⟨rfl, -⟩ := r2
   refine lq (q_indexAddr Sl_24 rfl rfl h3.rsl hx6) rfl <| lf Fld_54_2 rfl rfl rfl <| lg3 2 Tn_51 g2 rfl rfl <| soN 0 Sz_51 rfl ⟨rfl, rfl, rfl, trivial⟩ rfl ?_
   refine en ?_
   exact wto (K (x6.V.K, x6.V.N, x6.V.S) h) ⟨rfl, rfl, rfl, rfl, rfl, rfl, rfl, trivial⟩ (fun w1 hw => (hw.sel (js := [0, 0, 0]) rfl).selO (js := [0, 0, 0, 0, 0]) rfl)
  refine WT.skip ?_
  exact wto (K (x3.1.K, x3.1.N, x3.1.S) h) ⟨rfl, rfl, rfl, rfl, rfl, rfl, rfl, trivial⟩ (fun w1 hw => (hw.sel (js := [0, 0, 0]) rfl).selO (js := [0, 0, 0, 0, 0]) rfl)
 refine xt rfl <| sq <| WT.mix (Kn Φ_3 [] [(b_5, .cells #[.string x2.1.Kind, u1] 29 (0, 0)), (b_4, .cells #[.string x2.1.Kind, v4, .bool x2.1.Not] 26 (0, 0))]) (fun _ => true) mixed (fun _ h => h.drew) <| mq 0 rfl (by kernel_rfl) (kn Kf.nil (ai2 0 1 rfl rfl)) (q_loadN Tn_26 rfl (fun w1 hw => hw.rgO (i := 1) rfl 0 3 [.string x2.1.Kind, v4, .bool x2.1.Not] rfl) rfl) rfl <| mq 1 rfl (by kernel_rfl) (kn Kf.nil (ai2 0 1 rfl rfl)) (q_loadN Tn_29 rfl (fun w1 hw => hw.rgO (i := 0) rfl 0 2 [.string x2.1.Kind, u1] rfl) rfl) rfl ?_
 refine ma 2 rfl (by kernel_rfl) (kn Kf.nil (ai2 0 1 rfl rfl)) rfl ?_
 obtain ⟨x7, hx7, h⟩ := bs h
 refine WM.one 3 (by kernel_rfl) (mc rfl (fun _ v Φx D w1 hq hw => Kn.of Kf.nil (ai2 0 1 rfl rfl) hw) (k_call (js := [2]) (R := [ob u1, ob v4]) Fun_21 rfl rfl (fun w1 hw ap hl => m_s_l6Binds_ok hw.fro N (⟨x1.b, s3, s4⟩ : Tl1Cur) h1 k3 (Dj.sub (ap.o pa0) i1) ap.nd hl hx7)) rfl (fun v8 Φ_7 F6 q6 => ?_))
 obtain ⟨ap5, fr6, v9, rfl, rfl, h8, e3, h9⟩ := q6
 replace h3 := h3.frame RTArg.lasts fr6 (ap5.r (i := 1) rfl) (Dj.nil _)
 replace k2 := k2.frame RTVal.lasts fr6 (ap5.r (i := 0) rfl) (Dj.nil _)
 refine WM.one 4 (by kernel_rfl) (ms rfl (fun _ w1 hw => Kn.of Kf.nil (ai2 0 1 rfl rfl) hw) (s_store (i := 3) (vs := [.string x2.1.Kind, v4, .bool x2.1.Not]) (C' := [.string x2.1.Kind, v4, .bool x2.1.Not]) (O' := [(b_5, .cells #[.string x2.1.Kind, u1] 29 (0, 0)), (b_4, .cells #[.string x2.1.Kind, v4, .bool x2.1.Not] 26 (0, 0)), (b_2, .cells #[.string (⟨#[]⟩ : ByteArray), .slice none 0 0] 29 (0, 0)), (b_1, .cells #[.string x2.1.Kind, v4, .bool x2.1.Not] 26 (0, 0))]) Sz_26 rfl rfl rfl rfl rfl rfl ⟨rfl, h3.one, rfl, trivial⟩ rfl rfl) rfl ?_)
 refine WM.one 5 (by kernel_rfl) (ms rfl (fun _ w1 hw => Kn.of Kf.nil (ai2 0 1 rfl rfl) hw) (s_store (i := 2) (vs := [.string x2.1.Kind, u1]) (C' := [.string x2.1.Kind, u1]) (O' := [(b_5, .cells #[.string x2.1.Kind, u1] 29 (0, 0)), (b_4, .cells #[.string x2.1.Kind, v4, .bool x2.1.Not] 26 (0, 0)), (b_2, .cells #[.string x2.1.Kind, u1] 29 (0, 0)), (b_1, .cells #[.string x2.1.Kind, v4, .bool x2.1.Not] 26 (0, 0))]) Sz_29 rfl rfl rfl rfl rfl rfl ⟨rfl, k2.one, trivial⟩ rfl rfl) rfl ?_)
 refine ma 6 rfl (by kernel_rfl) (kn Kf.nil (ai2 0 1 rfl rfl)) rfl <| WM.nil (by kernel_rfl) ?_
 refine WT.ret Try.func24 (resOk.three (rv_cell Tn_26 rfl (fun w1 hw => hw.rgO (i := 3) rfl 0 3 [.string x2.1.Kind, v4, .bool x2.1.Not] rfl) rfl) (rv_cell Tn_29 rfl (fun w1 hw => hw.rgO (i := 2) rfl 0 2 [.string x2.1.Kind, u1] rfl) rfl) rfl) (fun w1 hw => ?_)
 subst hb0
 cases h
 refine postG_of_St (js := [3, 2, 0]) hw rfl ⟨v4, u1, v8, rfl, rfl, h3, k2, h8⟩
theorem m_s_l1Int_ok {Φ : Hp} {w : World} (hΦ : In Φ w) (N : Nat) (p0 : Tl1Cur) (p1 : (List Int)) {pv0_0 pv1 : Value} {pG0_0 pG1 : List Nat} {pb0 : Nat} (ph0_0 : RSl (RI .u8) 1 Φ pG0_0 pv0_0 p0.b) (pp0 : Φ pb0 = some (.cells #[pv0_0, .int .i64 p0.i, .int .i64 p0.h] 67 (0, 0))) (ph1 : RSl (RI .i64) 1 Φ pG1 pv1 p1) (pd0_0 : Dj pG0_0 [[pb0]].flatten) (pd1 : Dj pG1 [[pb0]].flatten) (hB : [[pb0]].flatten.Nodup) (hlt : ∀ k ∈ [[pb0]].flatten, k < w.heap.size) {r : Int × Tl1Cur} (h : m_s_l1Int N p0 p1 = some r) :
  Calls Try.prog 39 [.pointer (some ⟨pb0, 0, none⟩), pv1].toArray w (PostG Φ w [[pb0]].flatten (fun Φ' Fs v => v = .int .i64 r.1 ∧ Fs = [[pb0]] ∧ r.2.b = p0.b ∧ Φ' pb0 = some (.cells #[pv0_0, .int .i64 r.2.i, .int .i64 r.2.h] 67 (0, 0)))) := by
 refine enter Try.func39 rfl Try.ntmps39 rfl (St.start hΦ [[pb0]] hB hlt) ?_
 have pa0_0 := Old.mk hΦ ph0_0.kn pd0_0
 have pa1 := Old.mk hΦ ph1.kn pd1
 unfold m_s_l1Int at h
 refine sr <| la rfl <| en <| sr <| la rfl <| la rfl <| la rfl <| lq (q_lenR Sl_35 rfl rfl ph1) rfl ?_
 obtain ⟨x1, hx1, h⟩ := bs h
 refine lc (k_call (js := [0]) (R := []) Fun_25 rfl rfl (fun w1 hw ap hl => m_s_l1Below_ok hw.fro N p0 (p1.length : Int) ph0_0 pp0 (ap.o pa0_0) ap.nd hl hx1)) rfl (fun v1 Φ_1 F1 q1 => ?_)
 obtain ⟨ap1, fr1, rfl, rfl, e1, h1⟩ := q1
 replace ph1 := ph1.frame RI.lasts fr1 (ap1.o pa1)
 replace ph0_0 := ph0_0.frame RI.lasts fr1 (ap1.o pa0_0)
 obtain ⟨x2, hx2, h⟩ := bs h
 obtain ⟨cs1, F2, -, g1, hb1, hs1, r1⟩ := ph1.el (idx_some hx2).2.2
 obtain ⟨rfl, -⟩ := r1
 refine lq (q_indexAddr Sl_35 rfl rfl ph1 hx2) rfl <| lg 0 T1_3 g1 rfl rfl <| la rfl <| en ?_
 refine WT.ret Try.func39 (resOk.one rfl) (fun w1 hw => ?_)
 cases h
 refine postG_of_St (js := [0]) hw rfl ⟨rfl, rfl, rfl, h1⟩
theorem m_s_l2Draw_ok {Φ : Hp} {w : World} (hΦ : In Φ w) (N : Nat) (p0 : Tl1Cur) {pv0_0 : Value} {pG0_0 : List Nat} {pb0 : Nat} (ph0_0 : RSl (RI .u8) 1 Φ pG0_0 pv0_0 p0.b) (pp0 : Φ pb0 = some (.cells #[pv0_0, .int .i64 p0.i, .int .i64 p0.h] 67 (0, 0))) (pd0_0 : Dj pG0_0 [[pb0]].flatten) (hB : [[pb0]].flatten.Nodup) (hlt : ∀ k ∈ [[pb0]].flatten, k < w.heap.size) {r : TVal × Tl1Cur} (h : m_s_l2Draw N p0 = some r) :
  Calls Try.prog 36 [.pointer (some ⟨pb0, 0, none⟩)].toArray w (PostG Φ w [[pb0]].flatten (fun Φ' Fs v => v = .agg [.int .i64 r.1.K, .int .i64 r.1.N, .string r.1.S].toArray ∧ Fs = [[pb0]] ∧ r.2.b = p0.b ∧ Φ' pb0 = some (.cells #[pv0_0, .int .i64 r.2.i, .int .i64 r.2.h] 67 (0, 0)))) := by
 refine enter Try.func36 rfl Try.ntmps36 rfl (St.start hΦ [[pb0]] hB hlt) ?_
 have pa0_0 := Old.mk hΦ ph0_0.kn pd0_0
 unfold m_s_l2Draw at h
 refine sr ?_
 refine ln (nz Zr_51) rfl (fun b_1 => ?_)
 refine en <| sq <| sr <| la rfl ?_
 obtain ⟨x1, hx1, h⟩ := bs h
 refine lc (k_call (js := [0]) (R := []) Fun_18 rfl rfl (fun w1 hw ap hl => m_s_l1Once_ok hw.fro N p0 2 ph0_0 pp0 (ap.o pa0_0) ap.nd hl hx1)) rfl (fun v1 Φ_1 F1 q1 => ?_)
 obtain ⟨ap1, fr1, rfl, rfl, e1, h1⟩ := q1
 replace ph0_0 := ph0_0.frame RI.lasts fr1 (ap1.o pa0_0)
 refine en ?_
 refine cdh rfl h (fun c1 h => ?_) (fun c1 h => ?_)
 ·refine sr <| la rfl ?_
  have rc1 : RC (RI .i64) 1 Φ_1 ([[], [], [], [], [], [], []] : List (List Nat)) [.int .i64 0, .int .i64 1, .int .i64 2, .int .i64 3, .int .i64 (-1), .int .i64 1000000000, .int .i64 (-1000000000)] ([0, 1, 2, 3, (-1), 1000000000, (-1000000000)] : List Int) := RC.cons (c := [.int .i64 0]) (cells := [.int .i64 1, .int .i64 2, .int .i64 3, .int .i64 (-1), .int .i64 1000000000, .int .i64 (-1000000000)]) ⟨rfl, rfl⟩ rfl (RC.cons (c := [.int .i64 1]) (cells := [.int .i64 2, .int .i64 3, .int .i64 (-1), .int .i64 1000000000, .int .i64 (-1000000000)]) ⟨rfl, rfl⟩ rfl (RC.cons (c := [.int .i64 2]) (cells := [.int .i64 3, .int .i64 (-1), .int .i64 1000000000, .int .i64 (-1000000000)]) ⟨rfl, rfl⟩ rfl (RC.cons (c := [.int .i64 3]) (cells := [.int .i64 (-1), .int .i64 1000000000, .int .i64 (-1000000000)]) ⟨rfl, rfl⟩ rfl (RC.cons (c := [.int .i64 (-1)]) (cells := [.int .i64 1000000000, .int .i64 (-1000000000)]) ⟨rfl, rfl⟩ rfl (RC.cons (c := [.int .i64 1000000000]) (cells := [.int .i64 (-1000000000)]) ⟨rfl, rfl⟩ rfl (RC.cons (c := [.int .i64 (-1000000000)]) (cells := []) ⟨rfl, rfl⟩ rfl (RC.nil _ _ _)))))))
  refine le' (e_lit (vs := [(0, .int .i64 0), (1, .int .i64 1), (2, .int .i64 2), (3, .int .i64 3), (4, .int .i64 (-1)), (5, .int .i64 1000000000), (6, .int .i64 (-1000000000))]) (C := #[.int .i64 0, .int .i64 1, .int .i64 2, .int .i64 3, .int .i64 (-1), .int .i64 1000000000, .int .i64 (-1000000000)]) RI.lasts Sl_35 Zr_3 rfl rfl rfl rfl (fill_made MC_3_7 (fill_cons (C' := [.int .i64 0, .int .i64 0, .int .i64 0, .int .i64 0, .int .i64 0, .int .i64 0, .int .i64 0]) rfl rfl rfl rfl rfl (fill_cons (C' := [.int .i64 0, .int .i64 1, .int .i64 0, .int .i64 0, .int .i64 0, .int .i64 0, .int .i64 0]) rfl rfl rfl rfl rfl (fill_cons (C' := [.int .i64 0, .int .i64 1, .int .i64 2, .int .i64 0, .int .i64 0, .int .i64 0, .int .i64 0]) rfl rfl rfl rfl rfl (fill_cons (C' := [.int .i64 0, .int .i64 1, .int .i64 2, .int .i64 3, .int .i64 0, .int .i64 0, .int .i64 0]) rfl rfl rfl rfl rfl (fill_cons (C' := [.int .i64 0, .int .i64 1, .int .i64 2, .int .i64 3, .int .i64 (-1), .int .i64 0, .int .i64 0]) rfl rfl rfl rfl rfl (fill_cons (C' := [.int .i64 0, .int .i64 1, .int .i64 2, .int .i64 3, .int .i64 (-1), .int .i64 1000000000, .int .i64 0]) rfl rfl rfl rfl rfl (fill_cons (C' := [.int .i64 0, .int .i64 1, .int .i64 2, .int .i64 3, .int .i64 (-1), .int .i64 1000000000, .int .i64 (-1000000000)]) rfl rfl rfl rfl rfl (fill_nil))))))))) rfl rc1 rfl (by simpa using Kw.nil)) rfl (fun v2 Φ_2 D1 q2 => ?_)
  obtain ⟨fr2, h2⟩ := q2
  replace h2 : OSl (RI .i64) 3 1 Φ_2 [] v2 ([0, 1, 2, 3, (-1), 1000000000, (-1000000000)] : List Int) := by simpa using h2
  replace ph0_0 := ph0_0.frame RI.lasts fr2 (Dj.empty _)
  replace h1 := fr2 _ _ (by simp) h1
  obtain ⟨x2, hx2, h⟩ := bs h
  refine lc (k_call (js := [1]) (R := [ob v2]) Fun_39 rfl rfl (fun w1 hw ap hl => m_s_l1Int_ok hw.fro N (⟨p0.b, x1.2.i, x1.2.h⟩ : Tl1Cur) ([0, 1, 2, 3, (-1), 1000000000, (-1000000000)] : List Int) ph0_0 h1 h2.rsl (ap.o pa0_0) (Dj.app (ap.r (i := 0) rfl) (Dj.nil _)) ap.nd hl hx2)) rfl (fun v3 Φ_3 F2 q3 => ?_)
  obtain ⟨ap2, fr3, rfl, rfl, e2, h3⟩ := q3
  replace ph0_0 := ph0_0.frame RI.lasts fr3 (ap2.o pa0_0)
  refine lq (q_build (vs := [(0, .int .i64 1), (1, .int .i64 x2.1)]) (C := #[.int .i64 1, .int .i64 x2.1, .string (⟨#[]⟩ : ByteArray)]) Pl_51 Zr_51 rfl (fill_cons (C' := [.int .i64 1, .int .i64 0, .string ⟨#[]⟩]) rfl rfl rfl rfl rfl (fill_cons (C' := [.int .i64 1, .int .i64 x2.1, .string ⟨#[]⟩]) rfl rfl rfl rfl rfl (fill_nil)))) rfl ?_
  refine soN 0 Sz_51 rfl ⟨rfl, rfl, rfl, trivial⟩ rfl ?_
  refine en ?_
  refine WT.ret Try.func36 (resOk.one (rv_cell Tn_51 rfl (fun w1 hw => hw.rgO (i := 0) rfl 0 3 [.int .i64 1, .int .i64 x2.1, .string (⟨#[]⟩ : ByteArray)] rfl) rfl)) (fun w1 hw => ?_)
  cases h
  refine postG_of_St (js := [0]) hw rfl ⟨rfl, rfl, rfl, h3⟩
 refine WT.skip <| sr <| la rfl ?_
 have rc2 : RC RS 1 Φ_1 ([[], [], [], [], []] : List (List Nat)) [.string (⟨#[]⟩ : ByteArray), .string (⟨#[97]⟩ : ByteArray), .string (⟨#[98]⟩ : ByteArray), .string (⟨#[112, 97, 105, 100]⟩ : ByteArray), .string (⟨#[120, 95, 49]⟩ : ByteArray)] ([(⟨#[]⟩ : ByteArray), (⟨#[97]⟩ : ByteArray), (⟨#[98]⟩ : ByteArray), (⟨#[112, 97, 105, 100]⟩ : ByteArray), (⟨#[120, 95, 49]⟩ : ByteArray)] : List ByteArray) := RC.cons (c := [.string (⟨#[]⟩ : ByteArray)]) (cells := [.string (⟨#[97]⟩ : ByteArray), .string (⟨#[98]⟩ : ByteArray), .string (⟨#[112, 97, 105, 100]⟩ : ByteArray), .string (⟨#[120, 95, 49]⟩ : ByteArray)]) ⟨rfl, rfl⟩ rfl (RC.cons (c := [.string (⟨#[97]⟩ : ByteArray)]) (cells := [.string (⟨#[98]⟩ : ByteArray), .string (⟨#[112, 97, 105, 100]⟩ : ByteArray), .string (⟨#[120, 95, 49]⟩ : ByteArray)]) ⟨rfl, rfl⟩ rfl (RC.cons (c := [.string (⟨#[98]⟩ : ByteArray)]) (cells := [.string (⟨#[112, 97, 105, 100]⟩ : ByteArray), .string (⟨#[120, 95, 49]⟩ : ByteArray)]) ⟨rfl, rfl⟩ rfl (RC.cons (c := [.string (⟨#[112, 97, 105, 100]⟩ : ByteArray)]) (cells := [.string (⟨#[120, 95, 49]⟩ : ByteArray)]) ⟨rfl, rfl⟩ rfl (RC.cons (c := [.string (⟨#[120, 95, 49]⟩ : ByteArray)]) (cells := []) ⟨rfl, rfl⟩ rfl (RC.nil _ _ _)))))
 refine le' (e_lit (vs := [(0, .string (⟨#[]⟩ : ByteArray)), (1, .string (⟨#[97]⟩ : ByteArray)), (2, .string (⟨#[98]⟩ : ByteArray)), (3, .string (⟨#[112, 97, 105, 100]⟩ : ByteArray)), (4, .string (⟨#[120, 95, 49]⟩ : ByteArray))]) (C := #[.string (⟨#[]⟩ : ByteArray), .string (⟨#[97]⟩ : ByteArray), .string (⟨#[98]⟩ : ByteArray), .string (⟨#[112, 97, 105, 100]⟩ : ByteArray), .string (⟨#[120, 95, 49]⟩ : ByteArray)]) RS.lasts Sl_69 Zr_9 rfl rfl rfl rfl (fill_made MC_9_5 (fill_cons (C' := [.string (⟨#[]⟩ : ByteArray), .string ⟨#[]⟩, .string ⟨#[]⟩, .string ⟨#[]⟩, .string ⟨#[]⟩]) rfl rfl rfl rfl rfl (fill_cons (C' := [.string (⟨#[]⟩ : ByteArray), .string (⟨#[97]⟩ : ByteArray), .string ⟨#[]⟩, .string ⟨#[]⟩, .string ⟨#[]⟩]) rfl rfl rfl rfl rfl (fill_cons (C' := [.string (⟨#[]⟩ : ByteArray), .string (⟨#[97]⟩ : ByteArray), .string (⟨#[98]⟩ : ByteArray), .string ⟨#[]⟩, .string ⟨#[]⟩]) rfl rfl rfl rfl rfl (fill_cons (C' := [.string (⟨#[]⟩ : ByteArray), .string (⟨#[97]⟩ : ByteArray), .string (⟨#[98]⟩ : ByteArray), .string (⟨#[112, 97, 105, 100]⟩ : ByteArray), .string ⟨#[]⟩]) rfl rfl rfl rfl rfl (fill_cons (C' := [.string (⟨#[]⟩ : ByteArray), .string (⟨#[97]⟩ : ByteArray), .string (⟨#[98]⟩ : ByteArray), .string (⟨#[112, 97, 105, 100]⟩ : ByteArray), .string (⟨#[120, 95, 49]⟩ : ByteArray)]) rfl rfl rfl rfl rfl (fill_nil))))))) rfl rc2 rfl (by simpa using Kw.nil)) rfl (fun v4 Φ_4 D2 q4 => ?_)
 obtain ⟨fr4, h4⟩ := q4
 replace h4 : OSl RS 9 1 Φ_4 [] v4 ([(⟨#[]⟩ : ByteArray), (⟨#[97]⟩ : ByteArray), (⟨#[98]⟩ : ByteArray), (⟨#[112, 97, 105, 100]⟩ : ByteArray), (⟨#[120, 95, 49]⟩ : ByteArray)] : List ByteArray) := by simpa using h4
 replace ph0_0 := ph0_0.frame RI.lasts fr4 (Dj.empty _)
 replace h1 := fr4 _ _ (by simp) h1
 obtain ⟨x3, hx3, h⟩ := bs h
 refine lc (k_call (js := [1]) (R := [ob v4]) Fun_32 rfl rfl (fun w1 hw ap hl => m_s_l1Str_ok hw.fro N (⟨p0.b, x1.2.i, x1.2.h⟩ : Tl1Cur) ([(⟨#[]⟩ : ByteArray), (⟨#[97]⟩ : ByteArray), (⟨#[98]⟩ : ByteArray), (⟨#[112, 97, 105, 100]⟩ : ByteArray), (⟨#[120, 95, 49]⟩ : ByteArray)] : List ByteArray) ph0_0 h1 h4.rsl (ap.o pa0_0) (Dj.app (ap.r (i := 0) rfl) (Dj.nil _)) ap.nd hl hx3)) rfl (fun v5 Φ_5 F3 q5 => ?_)
 obtain ⟨ap3, fr5, rfl, rfl, e3, h5⟩ := q5
 replace ph0_0 := ph0_0.frame RI.lasts fr5 (ap3.o pa0_0)
 refine lq (q_build (vs := [(0, .int .i64 2), (2, .string x3.1)]) (C := #[.int .i64 2, .int .i64 0, .string x3.1]) Pl_51 Zr_51 rfl (fill_cons (C' := [.int .i64 2, .int .i64 0, .string ⟨#[]⟩]) rfl rfl rfl rfl rfl (fill_cons (C' := [.int .i64 2, .int .i64 0, .string x3.1]) rfl rfl rfl rfl rfl (fill_nil)))) rfl ?_
 refine soN 0 Sz_51 rfl ⟨rfl, rfl, rfl, trivial⟩ rfl ?_
 refine en ?_
 refine WT.ret Try.func36 (resOk.one (rv_cell Tn_51 rfl (fun w1 hw => hw.rgO (i := 0) rfl 0 3 [.int .i64 2, .int .i64 0, .string x3.1] rfl) rfl)) (fun w1 hw => ?_)
 cases h
 refine postG_of_St (js := [0]) hw rfl ⟨rfl, rfl, rfl, h5⟩
theorem m_s_l2Any_ok {Φ : Hp} {w : World} (hΦ : In Φ w) (N : Nat) (p0 : Tl1Cur) {pv0_0 : Value} {pG0_0 : List Nat} {pb0 : Nat} (ph0_0 : RSl (RI .u8) 1 Φ pG0_0 pv0_0 p0.b) (pp0 : Φ pb0 = some (.cells #[pv0_0, .int .i64 p0.i, .int .i64 p0.h] 67 (0, 0))) (pd0_0 : Dj pG0_0 [[pb0]].flatten) (hB : [[pb0]].flatten.Nodup) (hlt : ∀ k ∈ [[pb0]].flatten, k < w.heap.size) {r : TVal × Tl1Cur} (h : m_s_l2Any N p0 = some r) :
  Calls Try.prog 35 [.pointer (some ⟨pb0, 0, none⟩)].toArray w (PostG Φ w [[pb0]].flatten (fun Φ' Fs v => v = .agg [.int .i64 r.1.K, .int .i64 r.1.N, .string r.1.S].toArray ∧ Fs = [[pb0]] ∧ r.2.b = p0.b ∧ Φ' pb0 = some (.cells #[pv0_0, .int .i64 r.2.i, .int .i64 r.2.h] 67 (0, 0)))) := by
 refine enter Try.func35 rfl Try.ntmps35 rfl (St.start hΦ [[pb0]] hB hlt) ?_
 have pa0_0 := Old.mk hΦ ph0_0.kn pd0_0
 revert pa0_0
 generalize hb0 : (⟨w, [[pb0]].flatten, Φ⟩ : Base) = w0
 intro pa0_0
 unfold m_s_l2Any at h
 refine sr ?_
 refine ln (nz Zr_51) rfl (fun b_1 => ?_)
 refine en <| sr <| la rfl ?_
 obtain ⟨x1, hx1, h⟩ := bs h
 refine lc (k_call (js := [0]) (R := []) Fun_36 rfl rfl (fun w1 hw ap hl => m_s_l2Draw_ok hw.fro N p0 ph0_0 pp0 (ap.o pa0_0) ap.nd hl hx1)) rfl (fun v1 Φ_1 F1 q1 => ?_)
 obtain ⟨ap1, fr1, rfl, rfl, e1, h1⟩ := q1
 replace ph0_0 := ph0_0.frame RI.lasts fr1 (ap1.o pa0_0)
 refine ln (nz Zr_51) rfl (fun b_2 => ?_)
 refine soN 0 Sz_51 rfl ⟨rfl, rfl, rfl, trivial⟩ rfl ?_
 refine en <| sq <| sr <| la rfl ?_
 obtain ⟨x2, hx2, h⟩ := bs h
 refine lc (k_call (js := [0]) (R := []) Fun_25 rfl rfl (fun w1 hw ap hl => m_s_l1Below_ok hw.fro N (⟨p0.b, x1.2.i, x1.2.h⟩ : Tl1Cur) 10 ph0_0 h1 (ap.o pa0_0) ap.nd hl hx2)) rfl (fun v2 Φ_2 F2 q2 => ?_)
 obtain ⟨ap2, fr2, rfl, rfl, e2, h2⟩ := q2
 replace ph0_0 := ph0_0.frame RI.lasts fr2 (ap2.o pa0_0)
 refine en <| blk <| sr <| la rfl <| la rfl <| en ?_
 refine cut (σ := Hp × Int × Int × Int × Int × ByteArray) (fun s => [(2, .pointer (some ⟨b_1, 0, none⟩)), (3, .pointer (some ⟨b_2, 0, none⟩))]) (fun s => St w0 s.1 [(b_2, .cells #[.int .i64 s.2.2.2.1, .int .i64 s.2.2.2.2.1, .string s.2.2.2.2.2] 51 (0, 0)), (b_1, .cells #[.int .i64 0, .int .i64 0, .string (⟨#[]⟩ : ByteArray)] 51 (0, 0))] [[pb0]]) (fun s => m_s_l2Any_j1 N p0 s.2.1 s.2.2.1 s.2.2.2.1 s.2.2.2.2.1 s.2.2.2.2.2 = some r ∧ (s.1 pb0 = some (.cells #[pv0_0, .int .i64 s.2.1, .int .i64 s.2.2.1] 67 (0, 0))) ∧ (RSl (RI .u8) 1 s.1 pG0_0 pv0_0 p0.b)) (fun s hm => ?_) (fun K => ?_)
 ·clear h
  obtain ⟨Φ_3, s1, s2, s3, s4, s5⟩ := s
  obtain ⟨h, k1, ph0_0⟩ := hm
  dsimp only at h k1 ph0_0 ⊢
  unfold m_s_l2Any_j1 at h
  refine ib <| sr <| ld3 Tn_51 0 rfl <| soN 1 Sz_51 rfl ⟨rfl, rfl, rfl, trivial⟩ rfl ?_
  refine en ?_
  refine WT.ret Try.func35 (resOk.one (rv_cell Tn_51 rfl (fun w1 hw => hw.rgO (i := 1) rfl 0 3 [.int .i64 s3, .int .i64 s4, .string s5] rfl) rfl)) (fun w1 hw => ?_)
  subst hb0
  cases h
  refine postG_of_St (js := [0]) hw rfl ⟨rfl, rfl, rfl, k1⟩
 refine cdh rfl h (fun c1 h => ?_) (fun c1 h => ?_)
 ·refine rgn <| la rfl ?_
  obtain ⟨x3, hx3, h⟩ := bs h
  refine lc (k_call (js := [0]) (R := []) Fun_25 rfl rfl (fun w1 hw ap hl => m_s_l1Below_ok hw.fro N (⟨p0.b, x2.2.i, x2.2.h⟩ : Tl1Cur) 4 ph0_0 h2 (ap.o pa0_0) ap.nd hl hx3)) rfl (fun v3 Φ_4 F3 q3 => ?_)
  obtain ⟨ap3, fr3, rfl, rfl, e3, h3⟩ := q3
  replace ph0_0 := ph0_0.frame RI.lasts fr3 (ap3.o pa0_0)
  refine lf Fld_51_0 rfl rfl rfl <| so1 0 Sz_3 rfl rfl ?_
  refine en ?_
  exact wto (K (Φ_4, x3.2.i, x3.2.h, x3.1, x1.1.N, x1.1.S) ⟨h, h3, ph0_0⟩) ⟨rfl, rfl, trivial⟩ (fun w1 hw => (hw.sel (js := [0]) rfl).selO (js := [0, 0]) rfl)
 refine sr <| la rfl <| la rfl <| en ?_
 refine cdh rfl h (fun c2 h => ?_) (fun c2 h => ?_)
 ·refine rgn <| la rfl ?_
  have rc1 : RC (RI .i64) 1 Φ_2 ([[], []] : List (List Nat)) [.int .i64 1000000001, .int .i64 5] ([1000000001, 5] : List Int) := RC.cons (c := [.int .i64 1000000001]) (cells := [.int .i64 5]) ⟨rfl, rfl⟩ rfl (RC.cons (c := [.int .i64 5]) (cells := []) ⟨rfl, rfl⟩ rfl (RC.nil _ _ _))
  refine le' (e_lit (vs := [(0, .int .i64 1000000001), (1, .int .i64 5)]) (C := #[.int .i64 1000000001, .int .i64 5]) RI.lasts Sl_35 Zr_3 rfl rfl rfl rfl (fill_made MC_3_2 (fill_cons (C' := [.int .i64 1000000001, .int .i64 0]) rfl rfl rfl rfl rfl (fill_cons (C' := [.int .i64 1000000001, .int .i64 5]) rfl rfl rfl rfl rfl (fill_nil)))) rfl rc1 rfl (by simpa using Kw.nil)) rfl (fun v4 Φ_5 D1 q4 => ?_)
  obtain ⟨fr4, h4⟩ := q4
  replace h4 : OSl (RI .i64) 3 1 Φ_5 [] v4 ([1000000001, 5] : List Int) := by simpa using h4
  replace ph0_0 := ph0_0.frame RI.lasts fr4 (Dj.empty _)
  replace h2 := fr4 _ _ (by simp) h2
  obtain ⟨x4, hx4, h⟩ := bs h
  refine lc (k_call (js := [1]) (R := [ob v4]) Fun_39 rfl rfl (fun w1 hw ap hl => m_s_l1Int_ok hw.fro N (⟨p0.b, x2.2.i, x2.2.h⟩ : Tl1Cur) ([1000000001, 5] : List Int) ph0_0 h2 h4.rsl (ap.o pa0_0) (Dj.app (ap.r (i := 0) rfl) (Dj.nil _)) ap.nd hl hx4)) rfl (fun v5 Φ_6 F4 q5 => ?_)
  obtain ⟨ap4, fr5, rfl, rfl, e4, h5⟩ := q5
  replace ph0_0 := ph0_0.frame RI.lasts fr5 (ap4.o pa0_0)
  refine lf Fld_51_1 rfl rfl rfl <| so1 0 Sz_3 rfl rfl ?_
  refine en ?_
  exact wto (K (Φ_6, x4.2.i, x4.2.h, x1.1.K, x4.1, x1.1.S) ⟨h, h5, ph0_0⟩) ⟨rfl, rfl, trivial⟩ (fun w1 hw => (hw.sel (js := [0]) rfl).selO (js := [0, 0]) rfl)
 refine sr <| la rfl <| la rfl <| en ?_
 refine cdh rfl h (fun c3 h => ?_) (fun c3 h => ?_)
 ·refine rgn <| la rfl ?_
  have rc2 : RC RS 1 Φ_2 ([[], [], [], []] : List (List Nat)) [.string (⟨#[65]⟩ : ByteArray), .string (⟨#[97, 32, 98]⟩ : ByteArray), .string (⟨#[116, 119, 101, 110, 116, 121, 111, 110, 101, 98, 121, 116, 101, 115, 116, 119, 101, 110, 116, 121, 111]⟩ : ByteArray), .string (⟨#[120]⟩ : ByteArray)] ([(⟨#[65]⟩ : ByteArray), (⟨#[97, 32, 98]⟩ : ByteArray), (⟨#[116, 119, 101, 110, 116, 121, 111, 110, 101, 98, 121, 116, 101, 115, 116, 119, 101, 110, 116, 121, 111]⟩ : ByteArray), (⟨#[120]⟩ : ByteArray)] : List ByteArray) := RC.cons (c := [.string (⟨#[65]⟩ : ByteArray)]) (cells := [.string (⟨#[97, 32, 98]⟩ : ByteArray), .string (⟨#[116, 119, 101, 110, 116, 121, 111, 110, 101, 98, 121, 116, 101, 115, 116, 119, 101, 110, 116, 121, 111]⟩ : ByteArray), .string (⟨#[120]⟩ : ByteArray)]) ⟨rfl, rfl⟩ rfl (RC.cons (c := [.string (⟨#[97, 32, 98]⟩ : ByteArray)]) (cells := [.string (⟨#[116, 119, 101, 110, 116, 121, 111, 110, 101, 98, 121, 116, 101, 115, 116, 119, 101, 110, 116, 121, 111]⟩ : ByteArray), .string (⟨#[120]⟩ : ByteArray)]) ⟨rfl, rfl⟩ rfl (RC.cons (c := [.string (⟨#[116, 119, 101, 110, 116, 121, 111, 110, 101, 98, 121, 116, 101, 115, 116, 119, 101, 110, 116, 121, 111]⟩ : ByteArray)]) (cells := [.string (⟨#[120]⟩ : ByteArray)]) ⟨rfl, rfl⟩ rfl (RC.cons (c := [.string (⟨#[120]⟩ : ByteArray)]) (cells := []) ⟨rfl, rfl⟩ rfl (RC.nil _ _ _))))
  refine le' (e_lit (vs := [(0, .string (⟨#[65]⟩ : ByteArray)), (1, .string (⟨#[97, 32, 98]⟩ : ByteArray)), (2, .string (⟨#[116, 119, 101, 110, 116, 121, 111, 110, 101, 98, 121, 116, 101, 115, 116, 119, 101, 110, 116, 121, 111]⟩ : ByteArray)), (3, .string (⟨#[120]⟩ : ByteArray))]) (C := #[.string (⟨#[65]⟩ : ByteArray), .string (⟨#[97, 32, 98]⟩ : ByteArray), .string (⟨#[116, 119, 101, 110, 116, 121, 111, 110, 101, 98, 121, 116, 101, 115, 116, 119, 101, 110, 116, 121, 111]⟩ : ByteArray), .string (⟨#[120]⟩ : ByteArray)]) RS.lasts Sl_69 Zr_9 rfl rfl rfl rfl (fill_made MC_9_4 (fill_cons (C' := [.string (⟨#[65]⟩ : ByteArray), .string ⟨#[]⟩, .string ⟨#[]⟩, .string ⟨#[]⟩]) rfl rfl rfl rfl rfl (fill_cons (C' := [.string (⟨#[65]⟩ : ByteArray), .string (⟨#[97, 32, 98]⟩ : ByteArray), .string ⟨#[]⟩, .string ⟨#[]⟩]) rfl rfl rfl rfl rfl (fill_cons (C' := [.string (⟨#[65]⟩ : ByteArray), .string (⟨#[97, 32, 98]⟩ : ByteArray), .string (⟨#[116, 119, 101, 110, 116, 121, 111, 110, 101, 98, 121, 116, 101, 115, 116, 119, 101, 110, 116, 121, 111]⟩ : ByteArray), .string ⟨#[]⟩]) rfl rfl rfl rfl rfl (fill_cons (C' := [.string (⟨#[65]⟩ : ByteArray), .string (⟨#[97, 32, 98]⟩ : ByteArray), .string (⟨#[116, 119, 101, 110, 116, 121, 111, 110, 101, 98, 121, 116, 101, 115, 116, 119, 101, 110, 116, 121, 111]⟩ : ByteArray), .string (⟨#[120]⟩ : ByteArray)]) rfl rfl rfl rfl rfl (fill_nil)))))) rfl rc2 rfl (by simpa using Kw.nil)) rfl (fun v6 Φ_7 D2 q6 => ?_)
  obtain ⟨fr6, h6⟩ := q6
  replace h6 : OSl RS 9 1 Φ_7 [] v6 ([(⟨#[65]⟩ : ByteArray), (⟨#[97, 32, 98]⟩ : ByteArray), (⟨#[116, 119, 101, 110, 116, 121, 111, 110, 101, 98, 121, 116, 101, 115, 116, 119, 101, 110, 116, 121, 111]⟩ : ByteArray), (⟨#[120]⟩ : ByteArray)] : List ByteArray) := by simpa using h6
  replace ph0_0 := ph0_0.frame RI.lasts fr6 (Dj.empty _)
  replace h2 := fr6 _ _ (by simp) h2
  obtain ⟨x5, hx5, h⟩ := bs h
  refine lc (k_call (js := [1]) (R := [ob v6]) Fun_32 rfl rfl (fun w1 hw ap hl => m_s_l1Str_ok hw.fro N (⟨p0.b, x2.2.i, x2.2.h⟩ : Tl1Cur) ([(⟨#[65]⟩ : ByteArray), (⟨#[97, 32, 98]⟩ : ByteArray), (⟨#[116, 119, 101, 110, 116, 121, 111, 110, 101, 98, 121, 116, 101, 115, 116, 119, 101, 110, 116, 121, 111]⟩ : ByteArray), (⟨#[120]⟩ : ByteArray)] : List ByteArray) ph0_0 h2 h6.rsl (ap.o pa0_0) (Dj.app (ap.r (i := 0) rfl) (Dj.nil _)) ap.nd hl hx5)) rfl (fun v7 Φ_8 F5 q7 => ?_)
  obtain ⟨ap5, fr7, rfl, rfl, e5, h7⟩ := q7
  replace ph0_0 := ph0_0.frame RI.lasts fr7 (ap5.o pa0_0)
  refine lf Fld_51_2 rfl rfl rfl <| so1 0 Sz_9 rfl rfl ?_
  refine en ?_
  exact wto (K (Φ_8, x5.2.i, x5.2.h, x1.1.K, x1.1.N, x5.1) ⟨h, h7, ph0_0⟩) ⟨rfl, rfl, trivial⟩ (fun w1 hw => (hw.sel (js := [0]) rfl).selO (js := [0, 0]) rfl)
 refine WT.skip ?_
 exact wto (K (Φ_2, x2.2.i, x2.2.h, x1.1.K, x1.1.N, x1.1.S) ⟨h, h2, ph0_0⟩) ⟨rfl, rfl, trivial⟩ (fun w1 hw => (hw.sel (js := [0]) rfl).selO (js := [0, 0]) rfl)
theorem m_s_l3Any_ok {Φ : Hp} {w : World} (hΦ : In Φ w) (N : Nat) (p0 : Tl1Cur) {pv0_0 : Value} {pG0_0 : List Nat} {pb0 : Nat} (ph0_0 : RSl (RI .u8) 1 Φ pG0_0 pv0_0 p0.b) (pp0 : Φ pb0 = some (.cells #[pv0_0, .int .i64 p0.i, .int .i64 p0.h] 67 (0, 0))) (pd0_0 : Dj pG0_0 [[pb0]].flatten) (hB : [[pb0]].flatten.Nodup) (hlt : ∀ k ∈ [[pb0]].flatten, k < w.heap.size) {r : TFact × Tl1Cur} (h : m_s_l3Any N p0 = some r) :
  Calls Try.prog 26 [.pointer (some ⟨pb0, 0, none⟩)].toArray w (PostG Φ w [[pb0]].flatten (fun Φ' Fs v => ∃ (sr_0_0 : Value), v = .agg [.string r.1.Kind, sr_0_0].toArray ∧ Fs = [ob sr_0_0, [pb0]] ∧ OSl RTVal 51 3 Φ' [] sr_0_0 r.1.Fields ∧ r.2.b = p0.b ∧ Φ' pb0 = some (.cells #[pv0_0, .int .i64 r.2.i, .int .i64 r.2.h] 67 (0, 0)))) := by
 refine enter Try.func26 rfl Try.ntmps26 rfl (St.start hΦ [[pb0]] hB hlt) ?_
 have pa0_0 := Old.mk hΦ ph0_0.kn pd0_0
 revert pa0_0
 generalize hb0 : (⟨w, [[pb0]].flatten, Φ⟩ : Base) = w0
 intro pa0_0
 unfold m_s_l3Any at h
 refine sr ?_
 refine ln (nz Zr_29) rfl (fun b_1 => ?_)
 refine en <| sr <| la rfl ?_
 obtain ⟨x1, hx1, h⟩ := bs h
 refine lc (k_call (js := [0]) (R := []) Fun_17 rfl rfl (fun w1 hw ap hl => m_s_l3Draw_ok hw.fro N p0 ph0_0 pp0 (ap.o pa0_0) ap.nd hl hx1)) rfl (fun v1 Φ_1 F1 q1 => ?_)
 obtain ⟨ap1, fr1, v2, rfl, rfl, h1, e1, h2⟩ := q1
 replace ph0_0 := ph0_0.frame RI.lasts fr1 (ap1.o pa0_0)
 refine ln (nz Zr_29) rfl (fun b_2 => ?_)
 refine soN 0 Sz_29 rfl ⟨rfl, h1.one, trivial⟩ rfl ?_
 refine en <| sq <| sr <| la rfl ?_
 obtain ⟨x2, hx2, h⟩ := bs h
 refine lc (k_call (js := [1]) (R := [ob v2]) Fun_25 rfl rfl (fun w1 hw ap hl => m_s_l1Below_ok hw.fro N (⟨p0.b, x1.2.i, x1.2.h⟩ : Tl1Cur) 10 ph0_0 h2 (ap.o pa0_0) ap.nd hl hx2)) rfl (fun v3 Φ_2 F2 q2 => ?_)
 obtain ⟨ap2, fr2, rfl, rfl, e2, h3⟩ := q2
 replace ph0_0 := ph0_0.frame RI.lasts fr2 (ap2.o pa0_0)
 replace h1 := h1.frame RTVal.lasts fr2 (ap2.r (i := 0) rfl) (Dj.nil _)
 refine en <| blk <| sr <| la rfl <| la rfl <| en ?_
 refine cut (σ := Hp × (List TVal) × Value × Int × Int × ByteArray) (fun s => [(2, .pointer (some ⟨b_1, 0, none⟩)), (3, .pointer (some ⟨b_2, 0, none⟩))]) (fun s => St w0 s.1 [(b_2, .cells #[.string s.2.2.2.2.2, s.2.2.1] 29 (0, 0)), (b_1, .cells #[.string (⟨#[]⟩ : ByteArray), .slice none 0 0] 29 (0, 0))] [[pb0], ob s.2.2.1]) (fun s => m_s_l3Any_j1 N p0 s.2.1 s.2.2.2.1 s.2.2.2.2.1 s.2.2.2.2.2 = some r ∧ (OSl RTVal 51 3 s.1 [] s.2.2.1 s.2.1) ∧ (s.1 pb0 = some (.cells #[pv0_0, .int .i64 s.2.2.2.1, .int .i64 s.2.2.2.2.1] 67 (0, 0))) ∧ (RSl (RI .u8) 1 s.1 pG0_0 pv0_0 p0.b)) (fun s hm => ?_) (fun K => ?_)
 ·clear h
  obtain ⟨Φ_3, s1, u1, s2, s3, s4⟩ := s
  obtain ⟨h, k1, k2, ph0_0⟩ := hm
  dsimp only at h k1 k2 ph0_0 ⊢
  unfold m_s_l3Any_j1 at h
  refine ib <| sr <| ld2 Tn_29 0 rfl <| soN 1 Sz_29 rfl ⟨rfl, k1.one, trivial⟩ rfl ?_
  refine en ?_
  refine WT.ret Try.func26 (resOk.one (rv_cell Tn_29 rfl (fun w1 hw => hw.rgO (i := 1) rfl 0 2 [.string s4, u1] rfl) rfl)) (fun w1 hw => ?_)
  subst hb0
  cases h
  refine postG_of_St (js := [1, 0]) hw rfl ⟨u1, rfl, rfl, k1, rfl, k2⟩
 refine cdh rfl h (fun c1 h => ?_) (fun c1 h => ?_)
 ·refine rgn <| la rfl ?_
  have rc1 : RC RS 1 Φ_2 ([[], [], [], []] : List (List Nat)) [.string (⟨#[]⟩ : ByteArray), .string (⟨#[65]⟩ : ByteArray), .string (⟨#[116, 104, 105, 114, 116, 101, 101, 110, 98, 121, 116, 101, 115]⟩ : ByteArray), .string (⟨#[120]⟩ : ByteArray)] ([(⟨#[]⟩ : ByteArray), (⟨#[65]⟩ : ByteArray), (⟨#[116, 104, 105, 114, 116, 101, 101, 110, 98, 121, 116, 101, 115]⟩ : ByteArray), (⟨#[120]⟩ : ByteArray)] : List ByteArray) := RC.cons (c := [.string (⟨#[]⟩ : ByteArray)]) (cells := [.string (⟨#[65]⟩ : ByteArray), .string (⟨#[116, 104, 105, 114, 116, 101, 101, 110, 98, 121, 116, 101, 115]⟩ : ByteArray), .string (⟨#[120]⟩ : ByteArray)]) ⟨rfl, rfl⟩ rfl (RC.cons (c := [.string (⟨#[65]⟩ : ByteArray)]) (cells := [.string (⟨#[116, 104, 105, 114, 116, 101, 101, 110, 98, 121, 116, 101, 115]⟩ : ByteArray), .string (⟨#[120]⟩ : ByteArray)]) ⟨rfl, rfl⟩ rfl (RC.cons (c := [.string (⟨#[116, 104, 105, 114, 116, 101, 101, 110, 98, 121, 116, 101, 115]⟩ : ByteArray)]) (cells := [.string (⟨#[120]⟩ : ByteArray)]) ⟨rfl, rfl⟩ rfl (RC.cons (c := [.string (⟨#[120]⟩ : ByteArray)]) (cells := []) ⟨rfl, rfl⟩ rfl (RC.nil _ _ _))))
  refine le' (e_lit (vs := [(0, .string (⟨#[]⟩ : ByteArray)), (1, .string (⟨#[65]⟩ : ByteArray)), (2, .string (⟨#[116, 104, 105, 114, 116, 101, 101, 110, 98, 121, 116, 101, 115]⟩ : ByteArray)), (3, .string (⟨#[120]⟩ : ByteArray))]) (C := #[.string (⟨#[]⟩ : ByteArray), .string (⟨#[65]⟩ : ByteArray), .string (⟨#[116, 104, 105, 114, 116, 101, 101, 110, 98, 121, 116, 101, 115]⟩ : ByteArray), .string (⟨#[120]⟩ : ByteArray)]) RS.lasts Sl_69 Zr_9 rfl rfl rfl rfl (fill_made MC_9_4 (fill_cons (C' := [.string (⟨#[]⟩ : ByteArray), .string ⟨#[]⟩, .string ⟨#[]⟩, .string ⟨#[]⟩]) rfl rfl rfl rfl rfl (fill_cons (C' := [.string (⟨#[]⟩ : ByteArray), .string (⟨#[65]⟩ : ByteArray), .string ⟨#[]⟩, .string ⟨#[]⟩]) rfl rfl rfl rfl rfl (fill_cons (C' := [.string (⟨#[]⟩ : ByteArray), .string (⟨#[65]⟩ : ByteArray), .string (⟨#[116, 104, 105, 114, 116, 101, 101, 110, 98, 121, 116, 101, 115]⟩ : ByteArray), .string ⟨#[]⟩]) rfl rfl rfl rfl rfl (fill_cons (C' := [.string (⟨#[]⟩ : ByteArray), .string (⟨#[65]⟩ : ByteArray), .string (⟨#[116, 104, 105, 114, 116, 101, 101, 110, 98, 121, 116, 101, 115]⟩ : ByteArray), .string (⟨#[120]⟩ : ByteArray)]) rfl rfl rfl rfl rfl (fill_nil)))))) rfl rc1 rfl (by simpa using Kw.nil)) rfl (fun v4 Φ_4 D1 q3 => ?_)
  obtain ⟨fr3, h4⟩ := q3
  replace h4 : OSl RS 9 1 Φ_4 [] v4 ([(⟨#[]⟩ : ByteArray), (⟨#[65]⟩ : ByteArray), (⟨#[116, 104, 105, 114, 116, 101, 101, 110, 98, 121, 116, 101, 115]⟩ : ByteArray), (⟨#[120]⟩ : ByteArray)] : List ByteArray) := by simpa using h4
  replace ph0_0 := ph0_0.frame RI.lasts fr3 (Dj.empty _)
  replace h1 := h1.frame RTVal.lasts fr3 (Dj.empty _) (Dj.empty _)
  replace h3 := fr3 _ _ (by simp) h3
  obtain ⟨x3, hx3, h⟩ := bs h
  refine lc (k_call (js := [1]) (R := [ob v4, ob v2]) Fun_32 rfl rfl (fun w1 hw ap hl => m_s_l1Str_ok hw.fro N (⟨p0.b, x2.2.i, x2.2.h⟩ : Tl1Cur) ([(⟨#[]⟩ : ByteArray), (⟨#[65]⟩ : ByteArray), (⟨#[116, 104, 105, 114, 116, 101, 101, 110, 98, 121, 116, 101, 115]⟩ : ByteArray), (⟨#[120]⟩ : ByteArray)] : List ByteArray) ph0_0 h3 h4.rsl (ap.o pa0_0) (Dj.app (ap.r (i := 0) rfl) (Dj.nil _)) ap.nd hl hx3)) rfl (fun v5 Φ_5 F3 q4 => ?_)
  obtain ⟨ap3, fr4, rfl, rfl, e3, h5⟩ := q4
  replace ph0_0 := ph0_0.frame RI.lasts fr4 (ap3.o pa0_0)
  replace h1 := h1.frame RTVal.lasts fr4 (ap3.r (i := 1) rfl) (Dj.nil _)
  refine lf Fld_29_0 rfl rfl rfl <| so1 0 Sz_9 rfl rfl ?_
  refine en ?_
  exact wto (K (Φ_5, x1.1.Fields, v2, x3.2.i, x3.2.h, x3.1) ⟨h, h1, h5, ph0_0⟩) ⟨rfl, rfl, trivial⟩ (fun w1 hw => (hw.sel (js := [0, 1]) rfl).selO (js := [0, 0]) rfl)
 refine sr <| la rfl <| la rfl <| en ?_
 refine cdh rfl h (fun c2 h => ?_) (fun c2 h => ?_)
 ·refine WT.mix (Kn Φ_2 [] [(b_2, .cells #[.string x1.1.Kind, v2] 29 (0, 0)), (b_1, .cells #[.string (⟨#[]⟩ : ByteArray), .slice none 0 0] 29 (0, 0))]) (fun i => match i with | 7 => false | _ => true) mixed (fun _ h => h.drew) <| mq 0 rfl (by kernel_rfl) (kn Kf.nil (ai2 0 1 rfl rfl)) (q_fieldAddr Fld_29_1 rfl) rfl <| mq 1 rfl (by kernel_rfl) (kn Kf.nil (ai2 0 1 rfl rfl)) (q_load1 T1_27 rfl (fun w1 hw => hw.rgO (i := 0) rfl 1 1 [v2] rfl)) rfl ?_
  refine ma 2 rfl (by kernel_rfl) (kn Kf.nil (ai2 0 1 rfl rfl)) rfl ?_
  obtain ⟨x4, hx4, h⟩ := bs h
  refine WM.one 3 (by kernel_rfl) (mc rfl (fun _ v Φx D w1 hq hw => Kn.of Kf.nil (ai2 0 1 rfl rfl) hw) (k_call (js := [0]) (R := [ob v2]) Fun_35 rfl rfl (fun w1 hw ap hl => m_s_l2Any_ok hw.fro N (⟨p0.b, x2.2.i, x2.2.h⟩ : Tl1Cur) ph0_0 h3 (ap.o pa0_0) ap.nd hl hx4)) rfl (fun v6 Φ_6 F4 q5 => ?_))
  obtain ⟨ap4, fr5, rfl, rfl, e4, h6⟩ := q5
  replace ph0_0 := ph0_0.frame RI.lasts fr5 (ap4.o pa0_0)
  replace h1 := h1.frame RTVal.lasts fr5 (ap4.r (i := 0) rfl) (Dj.nil _)
  have rc2 : RC RTVal 3 Φ_6 ([[]] : List (List Nat)) [.int .i64 x4.1.K, .int .i64 x4.1.N, .string x4.1.S] ([x4.1] : List TVal) := RC.cons (c := [.int .i64 x4.1.K, .int .i64 x4.1.N, .string x4.1.S]) (cells := []) ⟨rfl, rfl⟩ rfl (RC.nil _ _ _)
  refine WM.one 4 (by kernel_rfl) (me rfl (fun _ v Φx D w1 hq hw => Kn.of Kf.nil (ai2 0 1 rfl rfl) hw) (e_lit (vs := [(0, .agg [.int .i64 x4.1.K, .int .i64 x4.1.N, .string x4.1.S].toArray)]) (C := #[.int .i64 x4.1.K, .int .i64 x4.1.N, .string x4.1.S]) RTVal.lasts Sl_27 Zr_51 rfl rfl rfl rfl (fill_made MC_51_1 (fill_cons (C' := [.int .i64 x4.1.K, .int .i64 x4.1.N, .string x4.1.S]) rfl rfl rfl rfl rfl (fill_nil))) rfl rc2 rfl (by simpa using Kw.nil)) rfl (fun v7 Φ_7 D2 q6 => ?_))
  obtain ⟨fr6, h7⟩ := q6
  replace h7 : OSl RTVal 51 3 Φ_7 [] v7 ([x4.1] : List TVal) := by simpa using h7
  replace ph0_0 := ph0_0.frame RI.lasts fr6 (Dj.empty _)
  replace h1 := h1.frame RTVal.lasts fr6 (Dj.empty _) (Dj.empty _)
  replace h6 := fr6 _ _ (by simp) h6
  obtain ⟨x5, hx5, h⟩ := bs h
  refine WM.one 5 (by kernel_rfl) (me rfl (fun _ v Φx D w1 hq hw => Kn.of Kf.nil (ai2 0 1 rfl rfl) hw) (e_appF RTVal.lasts RTVal.one RTVal.flat Sl_27 Ei_51 rfl rfl rfl rfl rfl (js := [2]) (Rr := [ob v7, [pb0]]) rfl h1 h7.rsl hx5) rfl (fun v8 Φ_8 D3 q7 => ?_))
  obtain ⟨⟨ap5, fr7⟩, h8⟩ := q7
  replace ph0_0 := ph0_0.frame RI.lasts fr7 (ap5.o pa0_0)
  replace h6 := fr7 _ _ ((ap5.r (i := 1) rfl) _ (by simp)) h6
  refine mq 6 rfl (by kernel_rfl) (kn Kf.nil (ai2 0 1 rfl rfl)) (q_fieldAddr Fld_29_1 rfl) rfl ?_
  refine WM.one 7 (by kernel_rfl) (ms rfl (fun hc => by cases hc) (s_store (i := 0) (vs := [v8]) (C' := [.string x1.1.Kind, v8]) (O' := [(b_2, .cells #[.string x1.1.Kind, v8] 29 (0, 0)), (b_1, .cells #[.string (⟨#[]⟩ : ByteArray), .slice none 0 0] 29 (0, 0))]) Sz_27 rfl rfl rfl (one_cells h8.one) rfl rfl ⟨h8.one, trivial⟩ rfl rfl) rfl ?_)
  refine WM.nil (by kernel_rfl) ?_
  exact wto (K (Φ_8, x5, v8, x4.2.i, x4.2.h, x1.1.Kind) ⟨h, h8, h6, ph0_0⟩) ⟨rfl, rfl, trivial⟩ (fun w1 hw => (hw.sel (js := [2, 0]) rfl).selO (js := [0, 0]) rfl)
 refine sr <| la rfl <| la rfl <| en ?_
 refine cdh rfl h (fun c3 h => ?_) (fun c3 h => ?_)
 ·refine blk ?_
  refine loop_in (σ := Hp × (List TVal) × Value × Int × Int) (fun s => [(0, .pointer (some ⟨pb0, 0, none⟩)), (2, .pointer (some ⟨b_1, 0, none⟩)), (3, .pointer (some ⟨b_2, 0, none⟩))]) (fun s => St w0 s.1 [(b_2, .cells #[.string x1.1.Kind, s.2.2.1] 29 (0, 0)), (b_1, .cells #[.string (⟨#[]⟩ : ByteArray), .slice none 0 0] 29 (0, 0))] [[pb0], ob s.2.2.1]) (fun m s => m_s_l3Any_l2 N p0 x1 m s.2.1 s.2.2.2.1 s.2.2.2.2 = some r ∧ (OSl RTVal 51 3 s.1 [] s.2.2.1 s.2.1) ∧ (s.1 pb0 = some (.cells #[pv0_0, .int .i64 s.2.2.2.1, .int .i64 s.2.2.2.2] 67 (0, 0))) ∧ (RSl (RI .u8) 1 s.1 pG0_0 pv0_0 p0.b)) (Φ_2, x1.1.Fields, v2, x2.2.i, x2.2.h) N ⟨h, h1, h3, ph0_0⟩ ⟨rfl, rfl, rfl, trivial⟩ (fun w1 hw => (hw.sel (js := [0, 0]) rfl).selO (js := [0, 0]) rfl) (fun s hm => none_ne hm.1) (fun n2 ih2 s hm => ?_)
  obtain ⟨Φ_9, s5, u2, s6, s7⟩ := s
  obtain ⟨h, k3, k4, ph0_0⟩ := hm
  dsimp only at h k3 k4 ph0_0 ⊢
  unfold m_s_l3Any_l2 at h
  refine sq <| sq <| WT.mix (Kn Φ_9 [] [(b_2, .cells #[.string x1.1.Kind, u2] 29 (0, 0)), (b_1, .cells #[.string (⟨#[]⟩ : ByteArray), .slice none 0 0] 29 (0, 0))]) (fun _ => true) mixed (fun _ h => h.drew) <| mq 0 rfl (by kernel_rfl) (kn Kf.nil (ai2 0 1 rfl rfl)) (q_fieldAddr Fld_29_1 rfl) rfl <| mq 1 rfl (by kernel_rfl) (kn Kf.nil (ai2 0 1 rfl rfl)) (q_load1 T1_27 rfl (fun w1 hw => hw.rgO (i := 0) rfl 1 1 [u2] rfl)) rfl ?_
  refine mq 2 rfl (by kernel_rfl) (kn Kf.nil (ai2 0 1 rfl rfl)) (q_lenR Sl_27 rfl rfl k3.rsl) rfl <| ma 3 rfl (by kernel_rfl) (kn Kf.nil (ai2 0 1 rfl rfl)) rfl ?_
  obtain ⟨x6, hx6, h⟩ := bs h
  refine WM.one 4 (by kernel_rfl) (mc rfl (fun _ v Φx D w1 hq hw => Kn.of Kf.nil (ai2 0 1 rfl rfl) hw) (k_call (js := [0]) (R := [ob u2]) Fun_25 rfl rfl (fun w1 hw ap hl => m_s_l1Below_ok hw.fro N (⟨p0.b, s6, s7⟩ : Tl1Cur) 2 ph0_0 k4 (ap.o pa0_0) ap.nd hl hx6)) rfl (fun v9 Φ_10 F5 q8 => ?_))
  obtain ⟨ap6, fr8, rfl, rfl, e5, h9⟩ := q8
  replace ph0_0 := ph0_0.frame RI.lasts fr8 (ap6.o pa0_0)
  replace k3 := k3.frame RTVal.lasts fr8 (ap6.r (i := 0) rfl) (Dj.nil _)
  refine ma 5 rfl (by kernel_rfl) (kn Kf.nil (ai2 0 1 rfl rfl)) rfl <| ma 6 rfl (by kernel_rfl) (kn Kf.nil (ai2 0 1 rfl rfl)) rfl <| WM.nil (by kernel_rfl) ?_
  refine cdh rfl h (fun c4 h => ?_) (fun c4 h => ?_)
  ·refine WT.skip <| blk <| WT.mix (Kn Φ_10 [] [(b_2, .cells #[.string x1.1.Kind, u2] 29 (0, 0)), (b_1, .cells #[.string (⟨#[]⟩ : ByteArray), .slice none 0 0] 29 (0, 0))]) (fun i => match i with | 7 => false | _ => true) mixed (fun _ h => h.drew) <| mq 0 rfl (by kernel_rfl) (kn Kf.nil (ai2 0 1 rfl rfl)) (q_fieldAddr Fld_29_1 rfl) rfl <| mq 1 rfl (by kernel_rfl) (kn Kf.nil (ai2 0 1 rfl rfl)) (q_load1 T1_27 rfl (fun w1 hw => hw.rgO (i := 0) rfl 1 1 [u2] rfl)) rfl ?_
   refine ma 2 rfl (by kernel_rfl) (kn Kf.nil (ai2 0 1 rfl rfl)) rfl ?_
   obtain ⟨x7, hx7, h⟩ := bs h
   refine WM.one 3 (by kernel_rfl) (mc rfl (fun _ v Φx D w1 hq hw => Kn.of Kf.nil (ai2 0 1 rfl rfl) hw) (k_call (js := [0]) (R := [ob u2]) Fun_36 rfl rfl (fun w1 hw ap hl => m_s_l2Draw_ok hw.fro N (⟨p0.b, x6.2.i, x6.2.h⟩ : Tl1Cur) ph0_0 h9 (ap.o pa0_0) ap.nd hl hx7)) rfl (fun v10 Φ_11 F6 q9 => ?_))
   obtain ⟨ap7, fr9, rfl, rfl, e6, h10⟩ := q9
   replace ph0_0 := ph0_0.frame RI.lasts fr9 (ap7.o pa0_0)
   replace k3 := k3.frame RTVal.lasts fr9 (ap7.r (i := 0) rfl) (Dj.nil _)
   have rc3 : RC RTVal 3 Φ_11 ([[]] : List (List Nat)) [.int .i64 x7.1.K, .int .i64 x7.1.N, .string x7.1.S] ([x7.1] : List TVal) := RC.cons (c := [.int .i64 x7.1.K, .int .i64 x7.1.N, .string x7.1.S]) (cells := []) ⟨rfl, rfl⟩ rfl (RC.nil _ _ _)
   refine WM.one 4 (by kernel_rfl) (me rfl (fun _ v Φx D w1 hq hw => Kn.of Kf.nil (ai2 0 1 rfl rfl) hw) (e_lit (vs := [(0, .agg [.int .i64 x7.1.K, .int .i64 x7.1.N, .string x7.1.S].toArray)]) (C := #[.int .i64 x7.1.K, .int .i64 x7.1.N, .string x7.1.S]) RTVal.lasts Sl_27 Zr_51 rfl rfl rfl rfl (fill_made MC_51_1 (fill_cons (C' := [.int .i64 x7.1.K, .int .i64 x7.1.N, .string x7.1.S]) rfl rfl rfl rfl rfl (fill_nil))) rfl rc3 rfl (by simpa using Kw.nil)) rfl (fun v11 Φ_12 D4 q10 => ?_))
   obtain ⟨fr10, h11⟩ := q10
   replace h11 : OSl RTVal 51 3 Φ_12 [] v11 ([x7.1] : List TVal) := by simpa using h11
   replace ph0_0 := ph0_0.frame RI.lasts fr10 (Dj.empty _)
   replace k3 := k3.frame RTVal.lasts fr10 (Dj.empty _) (Dj.empty _)
   replace h10 := fr10 _ _ (by simp) h10
   obtain ⟨x8, hx8, h⟩ := bs h
   refine WM.one 5 (by kernel_rfl) (me rfl (fun _ v Φx D w1 hq hw => Kn.of Kf.nil (ai2 0 1 rfl rfl) hw) (e_appF RTVal.lasts RTVal.one RTVal.flat Sl_27 Ei_51 rfl rfl rfl rfl rfl (js := [2]) (Rr := [ob v11, [pb0]]) rfl k3 h11.rsl hx8) rfl (fun v12 Φ_13 D5 q11 => ?_))
   obtain ⟨⟨ap8, fr11⟩, h12⟩ := q11
   replace ph0_0 := ph0_0.frame RI.lasts fr11 (ap8.o pa0_0)
   replace h10 := fr11 _ _ ((ap8.r (i := 1) rfl) _ (by simp)) h10
   refine mq 6 rfl (by kernel_rfl) (kn Kf.nil (ai2 0 1 rfl rfl)) (q_fieldAddr Fld_29_1 rfl) rfl ?_
   refine WM.one 7 (by kernel_rfl) (ms rfl (fun hc => by cases hc) (s_store (i := 0) (vs := [v12]) (C' := [.string x1.1.Kind, v12]) (O' := [(b_2, .cells #[.string x1.1.Kind, v12] 29 (0, 0)), (b_1, .cells #[.string (⟨#[]⟩ : ByteArray), .slice none 0 0] 29 (0, 0))]) Sz_27 rfl rfl rfl (one_cells h12.one) rfl rfl ⟨h12.one, trivial⟩ rfl rfl) rfl ?_)
   refine WM.nil (by kernel_rfl) <| ib ?_
   exact lback (ih2 (Φ_13, x8, v12, x7.2.i, x7.2.h) ⟨h, h12, h10, ph0_0⟩) ⟨rfl, rfl, rfl, trivial⟩ (fun w1 hw => (hw.sel (js := [2, 0]) rfl).selO (js := [0, 0]) rfl)
  refine xt rfl ?_
  exact wto (K (Φ_10, s5, u2, x6.2.i, x6.2.h, x1.1.Kind) ⟨h, k3, h9, ph0_0⟩) ⟨rfl, rfl, trivial⟩ (fun w1 hw => (hw.sel (js := [0, 0]) rfl).selO (js := [0, 0]) rfl)
 refine WT.skip ?_
 exact wto (K (Φ_2, x1.1.Fields, v2, x2.2.i, x2.2.h, x1.1.Kind) ⟨h, h1, h3, ph0_0⟩) ⟨rfl, rfl, trivial⟩ (fun w1 hw => (hw.sel (js := [0, 0]) rfl).selO (js := [0, 0]) rfl)
theorem m_s_DrawPasses_ok {Φ : Hp} {w : World} (hΦ : In Φ w) (N : Nat) (p0 : (List Int)) {pv0 : Value} {pG0 : List Nat} (ph0 : RSl (RI .u8) 1 Φ pG0 pv0 p0) {r : TAlpha × TFact} (h : m_s_DrawPasses N p0 = some r) :
  Calls Try.prog 9 [pv0].toArray w (PostG Φ w [] (fun Φ' Fs v => ∃ (sr_0_0 : Value) (sr_0_1 : Value) (sr_1_0 : Value), v = .tuple #[.agg [.string r.1.Kind, .int .i64 r.1.N, sr_0_0, sr_0_1].toArray, .agg [.string r.2.Kind, sr_1_0].toArray] ∧ Fs = [ob sr_0_0, ob sr_0_1, ob sr_1_0] ∧ OSl RTVal 51 3 Φ' [] sr_0_0 r.1.Consts ∧ OSl (RI .i64) 3 1 Φ' [] sr_0_1 r.1.At ∧ OSl RTVal 51 3 Φ' [] sr_1_0 r.2.Fields)) := by
 refine enter Try.func9 rfl Try.ntmps9 rfl (St.start0 hΦ) ?_
 have pa0 := Old.mk hΦ ph0.kn (Dj.empty _)
 revert pa0
 generalize hb0 : (⟨w, [], Φ⟩ : Base) = w0
 intro pa0
 unfold m_s_DrawPasses at h
 refine sr ?_
 refine ln (nz Zr_37) rfl (fun b_1 => ?_)
 refine ln (nz Zr_29) rfl (fun b_2 => ?_)
 refine en <| sr <| la rfl ?_
 obtain ⟨x1, hx1, h⟩ := bs h
 refine lc (k_call (js := []) (R := []) Fun_15 rfl rfl (fun w1 hw ap hl => m_s_l1New_ok hw.fro N p0 ph0  hx1)) rfl (fun v1 Φ_1 F1 q1 => ?_)
 obtain ⟨ap1, fr1, b_3, v2, G1, rfl, rfl, h1, i1, h2⟩ := q1
 replace ph0 := ph0.frame RI.lasts fr1 (ap1.o pa0)
 refine la rfl <| en <| sr <| la rfl ?_
 obtain ⟨x2, hx2, h⟩ := bs h
 refine lc (k_call (js := []) (R := [[b_3]]) Fun_24 rfl rfl (fun w1 hw ap hl => m_s_DrawFitting_ok hw.fro N p0 ph0  hx2)) rfl (fun v3 Φ_2 F2 q2 => ?_)
 obtain ⟨ap2, fr2, v4, v5, v6, rfl, rfl, h3, h4, h5⟩ := q2
 replace h1 := h1.frame RI.lasts fr2 (Dj.sub (ap2.o pa0) i1)
 replace h2 := fr2 _ _ ((ap2.r (i := 0) rfl) _ (by simp)) h2
 refine la rfl <| lq (q_extract rfl rfl) rfl <| lq (q_extract rfl rfl) rfl <| lq (q_extract rfl rfl) rfl ?_
 refine ln (nz Zr_26) rfl (fun b_4 => ?_)
 refine ln (nz Zr_29) rfl (fun b_5 => ?_)
 refine soN 1 Sz_26 rfl ⟨rfl, h3.one, rfl, trivial⟩ rfl ?_
 refine soN 0 Sz_29 rfl ⟨rfl, h4.one, trivial⟩ rfl ?_
 refine la rfl <| en <| sr <| ld3 Tn_26 1 rfl ?_
 obtain ⟨x3, hx3, h⟩ := bs h
 refine lc (k_call (js := []) (R := [ob v4, ob v5, ob v6, [b_3]]) Fun_11 rfl rfl (fun w1 hw ap hl => m_s_AlphaOf_ok hw.fro N x2.1 h3.rsl  hx3)) rfl (fun v7 Φ_3 F3 q3 => ?_)
 obtain ⟨ap3, fr3, v8, v9, rfl, rfl, h6, h7⟩ := q3
 replace h1 := h1.frame RI.lasts fr3 (Dj.sub (ap3.o pa0) i1)
 replace h4 := h4.frame RTVal.lasts fr3 (ap3.r (i := 1) rfl) (Dj.nil _)
 replace h2 := fr3 _ _ ((ap3.r (i := 3) rfl) _ (by simp)) h2
 refine ln (nz Zr_37) rfl (fun b_6 => ?_)
 refine soN 0 Sz_37 rfl ⟨rfl, rfl, h6.one, h7.one, trivial⟩ rfl ?_
 refine en <| sq <| sr <| la rfl ?_
 obtain ⟨x4, hx4, h⟩ := bs h
 refine lc (k_call (js := [5]) (R := [ob v8, ob v9, ob v4, ob v5, ob v6]) Fun_25 rfl rfl (fun w1 hw ap hl => m_s_l1Below_ok hw.fro N x1 6 h1 h2 (Dj.sub (ap.o pa0) i1) ap.nd hl hx4)) rfl (fun v10 Φ_4 F4 q4 => ?_)
 obtain ⟨ap4, fr4, rfl, rfl, e1, h8⟩ := q4
 replace h1 := h1.frame RI.lasts fr4 (Dj.sub (ap4.o pa0) i1)
 replace h4 := h4.frame RTVal.lasts fr4 (ap4.r (i := 3) rfl) (Dj.nil _)
 replace h6 := h6.frame RTVal.lasts fr4 (ap4.r (i := 0) rfl) (Dj.nil _)
 replace h7 := h7.frame RI.lasts fr4 (ap4.r (i := 1) rfl) (Dj.nil _)
 refine en <| blk <| sr <| la rfl <| la rfl <| en ?_
 refine cut (σ := Hp × (List TVal) × Value × (List TVal) × Value × (List Int) × Value × ByteArray) (fun s => [(2, .pointer (some ⟨b_1, 0, none⟩)), (3, .pointer (some ⟨b_2, 0, none⟩)), (6, .pointer (some ⟨b_5, 0, none⟩)), (8, .pointer (some ⟨b_6, 0, none⟩))]) (fun s => St w0 s.1 [(b_6, .cells #[.string x3.Kind, .int .i64 x3.N, s.2.2.2.2.1, s.2.2.2.2.2.2.1] 37 (0, 0)), (b_5, .cells #[.string s.2.2.2.2.2.2.2, s.2.2.1] 29 (0, 0)), (b_2, .cells #[.string (⟨#[]⟩ : ByteArray), .slice none 0 0] 29 (0, 0)), (b_1, .cells #[.string (⟨#[]⟩ : ByteArray), .int .i64 0, .slice none 0 0, .slice none 0 0] 37 (0, 0))] [ob s.2.2.2.2.1, ob s.2.2.2.2.2.2.1, ob s.2.2.1]) (fun s => m_s_DrawPasses_j1 N x3 s.2.1 s.2.2.2.1 s.2.2.2.2.2.1 s.2.2.2.2.2.2.2 = some r ∧ (OSl RTVal 51 3 s.1 [] s.2.2.1 s.2.1) ∧ (OSl RTVal 51 3 s.1 [] s.2.2.2.2.1 s.2.2.2.1) ∧ (OSl (RI .i64) 3 1 s.1 [] s.2.2.2.2.2.2.1 s.2.2.2.2.2.1)) (fun s hm => ?_) (fun K => ?_)
 ·clear h
  obtain ⟨Φ_5, s1, u1, s2, u2, s3, u3, s4⟩ := s
  obtain ⟨h, k1, k2, k3⟩ := hm
  dsimp only at h k1 k2 k3 ⊢
  unfold m_s_DrawPasses_j1 at h
  refine ib <| sq <| WT.mix (Kn Φ_5 [] [(b_6, .cells #[.string x3.Kind, .int .i64 x3.N, u2, u3] 37 (0, 0)), (b_5, .cells #[.string s4, u1] 29 (0, 0)), (b_2, .cells #[.string (⟨#[]⟩ : ByteArray), .slice none 0 0] 29 (0, 0))]) (fun i => match i with | 3 => false | _ => true) mixed (fun _ h => h.drew) <| mq 0 rfl (by kernel_rfl) (kn Kf.nil (ai3 0 1 2 rfl rfl rfl)) (q_loadN Tn_37 rfl (fun w1 hw => hw.rgO (i := 0) rfl 0 4 [.string x3.Kind, .int .i64 x3.N, u2, u3] rfl) rfl) rfl ?_
  refine mq 1 rfl (by kernel_rfl) (kn Kf.nil (ai3 0 1 2 rfl rfl rfl)) (q_loadN Tn_29 rfl (fun w1 hw => hw.rgO (i := 1) rfl 0 2 [.string s4, u1] rfl) rfl) rfl ?_
  refine WM.one 2 (by kernel_rfl) (ms rfl (fun _ w1 hw => Kn.of Kf.nil (ai3 0 1 2 rfl rfl rfl) hw) (s_store (i := 3) (vs := [.string x3.Kind, .int .i64 x3.N, u2, u3]) (C' := [.string x3.Kind, .int .i64 x3.N, u2, u3]) (O' := [(b_6, .cells #[.string x3.Kind, .int .i64 x3.N, u2, u3] 37 (0, 0)), (b_5, .cells #[.string s4, u1] 29 (0, 0)), (b_2, .cells #[.string (⟨#[]⟩ : ByteArray), .slice none 0 0] 29 (0, 0)), (b_1, .cells #[.string x3.Kind, .int .i64 x3.N, u2, u3] 37 (0, 0))]) Sz_37 rfl rfl rfl rfl rfl rfl ⟨rfl, rfl, k2.one, k3.one, trivial⟩ rfl rfl) rfl ?_)
  refine WM.one 3 (by kernel_rfl) (ms rfl (fun hc => by cases hc) (s_store (i := 2) (vs := [.string s4, u1]) (C' := [.string s4, u1]) (O' := [(b_6, .cells #[.string x3.Kind, .int .i64 x3.N, u2, u3] 37 (0, 0)), (b_5, .cells #[.string s4, u1] 29 (0, 0)), (b_2, .cells #[.string s4, u1] 29 (0, 0)), (b_1, .cells #[.string x3.Kind, .int .i64 x3.N, u2, u3] 37 (0, 0))]) Sz_29 rfl rfl rfl rfl rfl rfl ⟨rfl, k1.one, trivial⟩ rfl rfl) rfl ?_)
  refine WM.nil (by kernel_rfl) ?_
  refine WT.ret Try.func9 (resOk.two (rv_cell Tn_37 rfl (fun w1 hw => hw.rgO (i := 3) rfl 0 4 [.string x3.Kind, .int .i64 x3.N, u2, u3] rfl) rfl) (rv_cell Tn_29 rfl (fun w1 hw => hw.rgO (i := 2) rfl 0 2 [.string s4, u1] rfl) rfl)) (fun w1 hw => ?_)
  subst hb0
  cases h
  refine postG_of_St (js := [0, 0, 0]) hw rfl ⟨u2, u3, u1, rfl, rfl, k2, k3, k1⟩
 refine cdh rfl h (fun c1 h => ?_) (fun c1 h => ?_)
 ·refine WT.mix (Kn Φ_4 [] [(b_6, .cells #[.string x3.Kind, .int .i64 x3.N, v8, v9] 37 (0, 0)), (b_5, .cells #[.string x2.2.1.Kind, v5] 29 (0, 0)), (b_4, .cells #[.string x2.1.Kind, v4, .bool x2.1.Not] 26 (0, 0)), (b_2, .cells #[.string (⟨#[]⟩ : ByteArray), .slice none 0 0] 29 (0, 0)), (b_1, .cells #[.string (⟨#[]⟩ : ByteArray), .int .i64 0, .slice none 0 0, .slice none 0 0] 37 (0, 0))]) (fun i => match i with | 8 => false | _ => true) mixed (fun _ h => h.drew) ?_
  refine mq 0 rfl (by kernel_rfl) (kn Kf.nil (AllIn.mem ⟨gM 0 rfl, gM 1 rfl, gM 2 rfl, gM 3 rfl, gM 4 rfl, trivial⟩)) (q_fieldAddr Fld_37_3 rfl) rfl <| mq 1 rfl (by kernel_rfl) (kn Kf.nil (AllIn.mem ⟨gM 0 rfl, gM 1 rfl, gM 2 rfl, gM 3 rfl, gM 4 rfl, trivial⟩)) (q_load1 T1_35 rfl (fun w1 hw => hw.rgO (i := 0) rfl 3 1 [v9] rfl)) rfl ?_
  refine ma 2 rfl (by kernel_rfl) (kn Kf.nil (AllIn.mem ⟨gM 0 rfl, gM 1 rfl, gM 2 rfl, gM 3 rfl, gM 4 rfl, trivial⟩)) rfl ?_
  obtain ⟨x5, hx5, h⟩ := bs h
  refine WM.one 3 (by kernel_rfl) (mc rfl (fun _ v Φx D w1 hq hw => Kn.of Kf.nil (AllIn.mem ⟨gM 0 rfl, gM 1 rfl, gM 2 rfl, gM 3 rfl, gM 4 rfl, trivial⟩) hw) (k_call (js := [0]) (R := [ob v8, ob v9, ob v4, ob v5, ob v6]) Fun_25 rfl rfl (fun w1 hw ap hl => m_s_l1Below_ok hw.fro N (⟨x1.b, x4.2.i, x4.2.h⟩ : Tl1Cur) 7 h1 h8 (Dj.sub (ap.o pa0) i1) ap.nd hl hx5)) rfl (fun v11 Φ_6 F5 q5 => ?_))
  obtain ⟨ap5, fr5, rfl, rfl, e2, h9⟩ := q5
  replace h4 := h4.frame RTVal.lasts fr5 (ap5.r (i := 3) rfl) (Dj.nil _)
  replace h6 := h6.frame RTVal.lasts fr5 (ap5.r (i := 0) rfl) (Dj.nil _)
  replace h7 := h7.frame RI.lasts fr5 (ap5.r (i := 1) rfl) (Dj.nil _)
  refine ma 4 rfl (by kernel_rfl) (kn Kf.nil (AllIn.mem ⟨gM 0 rfl, gM 1 rfl, gM 2 rfl, gM 3 rfl, gM 4 rfl, trivial⟩)) rfl ?_
  have rc1 : RC (RI .i64) 1 Φ_6 ([[]] : List (List Nat)) [.int .i64 (IntKind.i64.wrap (x5.1 - 1))] ([IntKind.i64.wrap (x5.1 - 1)] : List Int) := RC.cons (c := [.int .i64 (IntKind.i64.wrap (x5.1 - 1))]) (cells := []) ⟨rfl, rfl⟩ rfl (RC.nil _ _ _)
  refine WM.one 5 (by kernel_rfl) (me rfl (fun _ v Φx D w1 hq hw => Kn.of Kf.nil (AllIn.mem ⟨gM 0 rfl, gM 1 rfl, gM 2 rfl, gM 3 rfl, gM 4 rfl, trivial⟩) hw) (e_lit (vs := [(0, .int .i64 (IntKind.i64.wrap (x5.1 - 1)))]) (C := #[.int .i64 (IntKind.i64.wrap (x5.1 - 1))]) RI.lasts Sl_35 Zr_3 rfl rfl rfl rfl (fill_made MC_3_1 (fill_cons (C' := [.int .i64 (IntKind.i64.wrap (x5.1 - 1))]) rfl rfl rfl rfl rfl (fill_nil))) rfl rc1 rfl (by simpa using Kw.nil)) rfl (fun v12 Φ_7 D1 q6 => ?_))
  obtain ⟨fr6, h10⟩ := q6
  replace h10 : OSl (RI .i64) 3 1 Φ_7 [] v12 ([IntKind.i64.wrap (x5.1 - 1)] : List Int) := by simpa using h10
  replace h4 := h4.frame RTVal.lasts fr6 (Dj.empty _) (Dj.empty _)
  replace h6 := h6.frame RTVal.lasts fr6 (Dj.empty _) (Dj.empty _)
  replace h7 := h7.frame RI.lasts fr6 (Dj.empty _) (Dj.empty _)
  obtain ⟨x6, hx6, h⟩ := bs h
  refine WM.one 6 (by kernel_rfl) (me rfl (fun _ v Φx D w1 hq hw => Kn.of Kf.nil (AllIn.mem ⟨gM 0 rfl, gM 1 rfl, gM 2 rfl, gM 3 rfl, gM 4 rfl, trivial⟩) hw) (e_appF RI.lasts RI.one RI.flat Sl_35 Ei_3 rfl rfl rfl rfl rfl (js := [3]) (Rr := [ob v12, [b_3], ob v8, ob v4, ob v5, ob v6]) rfl h7 h10.rsl hx6) rfl (fun v13 Φ_8 D2 q7 => ?_))
  obtain ⟨⟨ap6, fr7⟩, h11⟩ := q7
  replace h4 := h4.frame RTVal.lasts fr7 (ap6.r (i := 4) rfl) (Dj.nil _)
  replace h6 := h6.frame RTVal.lasts fr7 (ap6.r (i := 2) rfl) (Dj.nil _)
  refine mq 7 rfl (by kernel_rfl) (kn Kf.nil (AllIn.mem ⟨gM 0 rfl, gM 1 rfl, gM 2 rfl, gM 3 rfl, gM 4 rfl, trivial⟩)) (q_fieldAddr Fld_37_3 rfl) rfl ?_
  refine WM.one 8 (by kernel_rfl) (ms rfl (fun hc => by cases hc) (s_store (i := 0) (vs := [v13]) (C' := [.string x3.Kind, .int .i64 x3.N, v8, v13]) (O' := [(b_6, .cells #[.string x3.Kind, .int .i64 x3.N, v8, v13] 37 (0, 0)), (b_5, .cells #[.string x2.2.1.Kind, v5] 29 (0, 0)), (b_4, .cells #[.string x2.1.Kind, v4, .bool x2.1.Not] 26 (0, 0)), (b_2, .cells #[.string (⟨#[]⟩ : ByteArray), .slice none 0 0] 29 (0, 0)), (b_1, .cells #[.string (⟨#[]⟩ : ByteArray), .int .i64 0, .slice none 0 0, .slice none 0 0] 37 (0, 0))]) Sz_35 rfl rfl rfl (one_cells h11.one) rfl rfl ⟨h11.one, trivial⟩ rfl rfl) rfl ?_)
  refine WM.nil (by kernel_rfl) ?_
  exact wto (K (Φ_8, x2.2.1.Fields, v5, x3.Consts, v8, x6, v13, x2.2.1.Kind) ⟨h, h4, h6, h11⟩) ⟨rfl, rfl, rfl, rfl, trivial⟩ (fun w1 hw => (hw.sel (js := [3, 0, 3]) rfl).selO (js := [0, 0, 1, 1]) rfl)
 refine sr <| la rfl <| la rfl <| en ?_
 refine cdh rfl h (fun c2 h => ?_) (fun c2 h => ?_)
 ·refine rgn <| la rfl ?_
  obtain ⟨x7, hx7, h⟩ := bs h
  refine lc (k_call (js := [0]) (R := [ob v8, ob v9, ob v4, ob v5, ob v6]) Fun_26 rfl rfl (fun w1 hw ap hl => m_s_l3Any_ok hw.fro N (⟨x1.b, x4.2.i, x4.2.h⟩ : Tl1Cur) h1 h8 (Dj.sub (ap.o pa0) i1) ap.nd hl hx7)) rfl (fun v14 Φ_9 F6 q8 => ?_)
  obtain ⟨ap7, fr8, v15, rfl, rfl, h12, e3, h13⟩ := q8
  replace h4 := h4.frame RTVal.lasts fr8 (ap7.r (i := 3) rfl) (Dj.nil _)
  replace h6 := h6.frame RTVal.lasts fr8 (ap7.r (i := 0) rfl) (Dj.nil _)
  replace h7 := h7.frame RI.lasts fr8 (ap7.r (i := 1) rfl) (Dj.nil _)
  refine soN 1 Sz_29 rfl ⟨rfl, h12.one, trivial⟩ rfl ?_
  refine en ?_
  exact wto (K (Φ_9, x7.1.Fields, v15, x3.Consts, v8, x3.At, v9, x7.1.Kind) ⟨h, h12, h6, h7⟩) ⟨rfl, rfl, rfl, rfl, trivial⟩ (fun w1 hw => (hw.sel (js := [2, 2, 0]) rfl).selO (js := [0, 0, 1, 1]) rfl)
 refine sr <| la rfl <| la rfl <| en ?_
 refine cdh rfl h (fun c3 h => ?_) (fun c3 h => ?_)
 ·refine sq <| WT.mix (Kn Φ_4 [] [(b_6, .cells #[.string x3.Kind, .int .i64 x3.N, v8, v9] 37 (0, 0)), (b_5, .cells #[.string x2.2.1.Kind, v5] 29 (0, 0)), (b_4, .cells #[.string x2.1.Kind, v4, .bool x2.1.Not] 26 (0, 0)), (b_2, .cells #[.string (⟨#[]⟩ : ByteArray), .slice none 0 0] 29 (0, 0)), (b_1, .cells #[.string (⟨#[]⟩ : ByteArray), .int .i64 0, .slice none 0 0, .slice none 0 0] 37 (0, 0))]) (fun i => match i with | 7 => false | _ => true) mixed (fun _ h => h.drew) ?_
  refine mq 0 rfl (by kernel_rfl) (kn Kf.nil (AllIn.mem ⟨gM 0 rfl, gM 1 rfl, gM 2 rfl, gM 3 rfl, gM 4 rfl, trivial⟩)) (q_fieldAddr Fld_37_2 rfl) rfl <| mq 1 rfl (by kernel_rfl) (kn Kf.nil (AllIn.mem ⟨gM 0 rfl, gM 1 rfl, gM 2 rfl, gM 3 rfl, gM 4 rfl, trivial⟩)) (q_load1 T1_27 rfl (fun w1 hw => hw.rgO (i := 0) rfl 2 1 [v8] rfl)) rfl ?_
  refine ma 2 rfl (by kernel_rfl) (kn Kf.nil (AllIn.mem ⟨gM 0 rfl, gM 1 rfl, gM 2 rfl, gM 3 rfl, gM 4 rfl, trivial⟩)) rfl ?_
  obtain ⟨x8, hx8, h⟩ := bs h
  refine WM.one 3 (by kernel_rfl) (mc rfl (fun _ v Φx D w1 hq hw => Kn.of Kf.nil (AllIn.mem ⟨gM 0 rfl, gM 1 rfl, gM 2 rfl, gM 3 rfl, gM 4 rfl, trivial⟩) hw) (k_call (js := [0]) (R := [ob v8, ob v9, ob v4, ob v5, ob v6]) Fun_19 rfl rfl (fun w1 hw ap hl => m_s_l3Small_ok hw.fro N (⟨x1.b, x4.2.i, x4.2.h⟩ : Tl1Cur) h1 h8 (Dj.sub (ap.o pa0) i1) ap.nd hl hx8)) rfl (fun v16 Φ_10 F7 q9 => ?_))
  obtain ⟨ap8, fr9, rfl, rfl, e4, h14⟩ := q9
  replace h4 := h4.frame RTVal.lasts fr9 (ap8.r (i := 3) rfl) (Dj.nil _)
  replace h6 := h6.frame RTVal.lasts fr9 (ap8.r (i := 0) rfl) (Dj.nil _)
  replace h7 := h7.frame RI.lasts fr9 (ap8.r (i := 1) rfl) (Dj.nil _)
  have rc2 : RC RTVal 3 Φ_10 ([[]] : List (List Nat)) [.int .i64 x8.1.K, .int .i64 x8.1.N, .string x8.1.S] ([x8.1] : List TVal) := RC.cons (c := [.int .i64 x8.1.K, .int .i64 x8.1.N, .string x8.1.S]) (cells := []) ⟨rfl, rfl⟩ rfl (RC.nil _ _ _)
  refine WM.one 4 (by kernel_rfl) (me rfl (fun _ v Φx D w1 hq hw => Kn.of Kf.nil (AllIn.mem ⟨gM 0 rfl, gM 1 rfl, gM 2 rfl, gM 3 rfl, gM 4 rfl, trivial⟩) hw) (e_lit (vs := [(0, .agg [.int .i64 x8.1.K, .int .i64 x8.1.N, .string x8.1.S].toArray)]) (C := #[.int .i64 x8.1.K, .int .i64 x8.1.N, .string x8.1.S]) RTVal.lasts Sl_27 Zr_51 rfl rfl rfl rfl (fill_made MC_51_1 (fill_cons (C' := [.int .i64 x8.1.K, .int .i64 x8.1.N, .string x8.1.S]) rfl rfl rfl rfl rfl (fill_nil))) rfl rc2 rfl (by simpa using Kw.nil)) rfl (fun v17 Φ_11 D3 q10 => ?_))
  obtain ⟨fr10, h15⟩ := q10
  replace h15 : OSl RTVal 51 3 Φ_11 [] v17 ([x8.1] : List TVal) := by simpa using h15
  replace h4 := h4.frame RTVal.lasts fr10 (Dj.empty _) (Dj.empty _)
  replace h6 := h6.frame RTVal.lasts fr10 (Dj.empty _) (Dj.empty _)
  replace h7 := h7.frame RI.lasts fr10 (Dj.empty _) (Dj.empty _)
  obtain ⟨x9, hx9, h⟩ := bs h
  refine WM.one 5 (by kernel_rfl) (me rfl (fun _ v Φx D w1 hq hw => Kn.of Kf.nil (AllIn.mem ⟨gM 0 rfl, gM 1 rfl, gM 2 rfl, gM 3 rfl, gM 4 rfl, trivial⟩) hw) (e_appF RTVal.lasts RTVal.one RTVal.flat Sl_27 Ei_51 rfl rfl rfl rfl rfl (js := [2]) (Rr := [ob v17, [b_3], ob v9, ob v4, ob v5, ob v6]) rfl h6 h15.rsl hx9) rfl (fun v18 Φ_12 D4 q11 => ?_))
  obtain ⟨⟨ap9, fr11⟩, h16⟩ := q11
  replace h4 := h4.frame RTVal.lasts fr11 (ap9.r (i := 4) rfl) (Dj.nil _)
  replace h7 := h7.frame RI.lasts fr11 (ap9.r (i := 2) rfl) (Dj.nil _)
  refine mq 6 rfl (by kernel_rfl) (kn Kf.nil (AllIn.mem ⟨gM 0 rfl, gM 1 rfl, gM 2 rfl, gM 3 rfl, gM 4 rfl, trivial⟩)) (q_fieldAddr Fld_37_2 rfl) rfl ?_
  refine WM.one 7 (by kernel_rfl) (ms rfl (fun hc => by cases hc) (s_store (i := 0) (vs := [v18]) (C' := [.string x3.Kind, .int .i64 x3.N, v18, v9]) (O' := [(b_6, .cells #[.string x3.Kind, .int .i64 x3.N, v18, v9] 37 (0, 0)), (b_5, .cells #[.string x2.2.1.Kind, v5] 29 (0, 0)), (b_4, .cells #[.string x2.1.Kind, v4, .bool x2.1.Not] 26 (0, 0)), (b_2, .cells #[.string (⟨#[]⟩ : ByteArray), .slice none 0 0] 29 (0, 0)), (b_1, .cells #[.string (⟨#[]⟩ : ByteArray), .int .i64 0, .slice none 0 0, .slice none 0 0] 37 (0, 0))]) Sz_27 rfl rfl rfl (one_cells h16.one) rfl rfl ⟨h16.one, trivial⟩ rfl rfl) rfl ?_)
  refine WM.nil (by kernel_rfl) <| rgn <| lf Fld_37_3 rfl rfl rfl <| lo T1_35 0 rfl ?_
  have rc3 : RC (RI .i64) 1 Φ_12 ([[]] : List (List Nat)) [.int .i64 0] ([0] : List Int) := RC.cons (c := [.int .i64 0]) (cells := []) ⟨rfl, rfl⟩ rfl (RC.nil _ _ _)
  refine le' (e_lit (vs := [(0, .int .i64 0)]) (C := #[.int .i64 0]) RI.lasts Sl_35 Zr_3 rfl rfl rfl rfl (fill_made MC_3_1 (fill_cons (C' := [.int .i64 0]) rfl rfl rfl rfl rfl (fill_nil))) rfl rc3 rfl (by simpa using Kw.nil)) rfl (fun v19 Φ_13 D5 q12 => ?_)
  obtain ⟨fr12, h17⟩ := q12
  replace h17 : OSl (RI .i64) 3 1 Φ_13 [] v19 ([0] : List Int) := by simpa using h17
  replace h4 := h4.frame RTVal.lasts fr12 (Dj.empty _) (Dj.empty _)
  replace h16 := h16.frame RTVal.lasts fr12 (Dj.empty _) (Dj.empty _)
  replace h7 := h7.frame RI.lasts fr12 (Dj.empty _) (Dj.empty _)
  obtain ⟨x10, hx10, h⟩ := bs h
  refine le' (e_appF RI.lasts RI.one RI.flat Sl_35 Ei_3 rfl rfl rfl rfl rfl (js := [4]) (Rr := [ob v19, ob v18, ob v17, [b_3], ob v4, ob v5, ob v6]) rfl h7 h17.rsl hx10) rfl (fun v20 Φ_14 D6 q13 => ?_)
  obtain ⟨⟨ap10, fr13⟩, h18⟩ := q13
  replace h4 := h4.frame RTVal.lasts fr13 (ap10.r (i := 5) rfl) (Dj.nil _)
  replace h16 := h16.frame RTVal.lasts fr13 (ap10.r (i := 1) rfl) (Dj.nil _)
  refine lf Fld_37_3 rfl rfl rfl <| so1 0 Sz_35 rfl h18.one ?_
  refine en ?_
  exact wto (K (Φ_14, x2.2.1.Fields, v5, x9, v18, x10, v20, x2.2.1.Kind) ⟨h, h4, h16, h18⟩) ⟨rfl, rfl, rfl, rfl, trivial⟩ (fun w1 hw => (hw.sel (js := [2, 0, 4]) rfl).selO (js := [0, 0, 1, 1]) rfl)
 refine WT.skip ?_
 exact wto (K (Φ_4, x2.2.1.Fields, v5, x3.Consts, v8, x3.At, v9, x2.2.1.Kind) ⟨h, h4, h6, h7⟩) ⟨rfl, rfl, rfl, rfl, trivial⟩ (fun w1 hw => (hw.sel (js := [1, 1, 2]) rfl).selO (js := [0, 0, 1, 1]) rfl)
theorem m_sl_Equal_Si_Val_i_Val_ok {Φ : Hp} {w : World} (hΦ : In Φ w) (N : Nat) (p0 : (List TVal)) (p1 : (List TVal)) {pv0 pv1 : Value} {pG0 pG1 : List Nat} (ph0 : RSl RTVal 3 Φ pG0 pv0 p0) (ph1 : RSl RTVal 3 Φ pG1 pv1 p1) {r : Bool} (h : m_sl_Equal_Si_Val_i_Val N p0 p1 = some r) :
  Calls Try.prog 27 [pv0, pv1].toArray w (Post (.bool r) w) := by
 refine enter Try.func27 rfl Try.ntmps27 rfl (St.start0 hΦ) ?_
 generalize hb0 : (⟨w, [], Φ⟩ : Base) = w0
 unfold m_sl_Equal_Si_Val_i_Val at h
 refine sr <| la rfl <| en <| sq <| sr <| la rfl <| lq (q_lenR Sl_27 rfl rfl ph0) rfl <| la rfl <| lq (q_lenR Sl_27 rfl rfl ph1) rfl <| la rfl <| en ?_
 refine cdh rfl h (fun c1 h => ?_) (fun c1 h => ?_)
 ·refine sr <| la rfl <| en ?_
  refine WT.ret Try.func27 (resOk.one rfl) (fun w1 hw => ?_)
  subst hb0
  cases h
  exact post_of_St hw
 refine WT.skip <| sq <| sr <| la rfl <| lq (q_lenR Sl_27 rfl rfl ph0) rfl <| la rfl <| en <| blk ?_
 refine loop_in (σ := Int) (fun s => [(0, pv0), (1, pv1), (12, .int .i64 (p0.length : Int)), (13, .int .i64 s)]) (fun s => St w0 Φ [] []) (fun m s => m_sl_Equal_Si_Val_i_Val_l1 N p0 p1 m s = some r) (0) N h ⟨rfl, rfl, rfl, rfl, trivial⟩ (fun w1 hw => (hw.sel (js := []) rfl).selO (js := []) rfl) (fun s hm => none_ne hm) (fun n1 ih1 s hm => ?_)
 revert hm; revert s; intro s1 hm
 have h : m_sl_Equal_Si_Val_i_Val_l1 N p0 p1 (n1 + 1) s1 = some r := hm
 show WT _ _ [(0, pv0), (1, pv1), (12, .int .i64 (p0.length : Int)), (13, .int .i64 s1)] (St w0 Φ [] [])
 unfold m_sl_Equal_Si_Val_i_Val_l1 at h
 refine sr <| la rfl <| en <| sq ?_
 refine cdh rfl h (fun c2 h => ?_) (fun c2 h => ?_)
 ·refine WT.skip <| sq <| blk <| sr <| la rfl <| la rfl <| en <| sq <| WT.draw mixed (by kernel_rfl) (fun _ h => h.drew) <| qq (q_move rfl) rfl <| qq (q_move rfl) rfl ?_
  obtain ⟨x1, hx1, h⟩ := bs h
  obtain ⟨cs1, F1, -, g1, hb1, hs1, r1⟩ := ph0.el (idx_some hx1).2.2
  obtain ⟨rfl, -⟩ := r1
  refine qq (q_indexAddr Sl_27 rfl rfl ph0 hx1) rfl <| qq (q_loadN Tn_51 rfl (fun w1 hw => (g1.of_eq 0 3 rfl rfl : rg _ _ _ [.int .i64 x1.K, .int .i64 x1.N, .string x1.S]).rangeAt hw.fro) rfl) rfl <| qq (q_move rfl) rfl <| qq (q_move rfl) rfl ?_
  obtain ⟨x2, hx2, h⟩ := bs h
  obtain ⟨cs2, F2, -, g2, hb2, hs2, r2⟩ := ph1.el (idx_some hx2).2.2
  obtain ⟨rfl, -⟩ := r2
  refine qq (q_indexAddr Sl_27 rfl rfl ph1 hx2) rfl <| qq (q_loadN Tn_51 rfl (fun w1 hw => (g2.of_eq 0 3 rfl rfl : rg _ _ _ [.int .i64 x2.K, .int .i64 x2.N, .string x2.S]).rangeAt hw.fro) rfl) rfl <| qq (q_neA EqT_51 rfl rfl rfl (r := eqT_TVal x1 x2) rfl) rfl <| WQ.nil ?_
  refine cdh rfl h (fun c3 h => ?_) (fun c3 h => ?_)
  ·refine sr <| la rfl <| en ?_
   refine WT.ret Try.func27 (resOk.one rfl) (fun w1 hw => ?_)
   subst hb0
   cases h
   exact post_of_St hw
  refine WT.skip <| ib <| rgn <| la rfl <| la rfl <| en ?_
  exact lback (ih1 (IntKind.i64.wrap (s1 + 1)) h) ⟨rfl, rfl, rfl, rfl, trivial⟩ (fun w1 hw => (hw.sel (js := []) rfl).selO (js := []) rfl)
 refine xt rfl <| sr <| la rfl <| en ?_
 refine WT.ret Try.func27 (resOk.one rfl) (fun w1 hw => ?_)
 subst hb0
 cases h
 exact post_of_St hw
theorem m_sl_Equal_Sint_int_ok {Φ : Hp} {w : World} (hΦ : In Φ w) (N : Nat) (p0 : (List Int)) (p1 : (List Int)) {pv0 pv1 : Value} {pG0 pG1 : List Nat} (ph0 : RSl (RI .i64) 1 Φ pG0 pv0 p0) (ph1 : RSl (RI .i64) 1 Φ pG1 pv1 p1) {r : Bool} (h : m_sl_Equal_Sint_int N p0 p1 = some r) :
  Calls Try.prog 28 [pv0, pv1].toArray w (Post (.bool r) w) := by
 refine enter Try.func28 rfl Try.ntmps28 rfl (St.start0 hΦ) ?_
 generalize hb0 : (⟨w, [], Φ⟩ : Base) = w0
 unfold m_sl_Equal_Sint_int at h
 refine sr <| la rfl <| en <| sq <| sr <| la rfl <| lq (q_lenR Sl_35 rfl rfl ph0) rfl <| la rfl <| lq (q_lenR Sl_35 rfl rfl ph1) rfl <| la rfl <| en ?_
 refine cdh rfl h (fun c1 h => ?_) (fun c1 h => ?_)
 ·refine sr <| la rfl <| en ?_
  refine WT.ret Try.func28 (resOk.one rfl) (fun w1 hw => ?_)
  subst hb0
  cases h
  exact post_of_St hw
 refine WT.skip <| sq <| sr <| la rfl <| lq (q_lenR Sl_35 rfl rfl ph0) rfl <| la rfl <| en <| blk ?_
 refine loop_in (σ := Int) (fun s => [(0, pv0), (1, pv1), (12, .int .i64 (p0.length : Int)), (13, .int .i64 s)]) (fun s => St w0 Φ [] []) (fun m s => m_sl_Equal_Sint_int_l1 N p0 p1 m s = some r) (0) N h ⟨rfl, rfl, rfl, rfl, trivial⟩ (fun w1 hw => (hw.sel (js := []) rfl).selO (js := []) rfl) (fun s hm => none_ne hm) (fun n1 ih1 s hm => ?_)
 revert hm; revert s; intro s1 hm
 have h : m_sl_Equal_Sint_int_l1 N p0 p1 (n1 + 1) s1 = some r := hm
 show WT _ _ [(0, pv0), (1, pv1), (12, .int .i64 (p0.length : Int)), (13, .int .i64 s1)] (St w0 Φ [] [])
 unfold m_sl_Equal_Sint_int_l1 at h
 refine sr <| la rfl <| en <| sq ?_
 refine cdh rfl h (fun c2 h => ?_) (fun c2 h => ?_)
 ·refine WT.skip <| sq <| blk <| sr <| la rfl <| la rfl <| en <| sq <| WT.draw mixed (by kernel_rfl) (fun _ h => h.drew) <| qq (q_move rfl) rfl <| qq (q_move rfl) rfl ?_
  obtain ⟨x1, hx1, h⟩ := bs h
  obtain ⟨cs1, F1, -, g1, hb1, hs1, r1⟩ := ph0.el (idx_some hx1).2.2
  obtain ⟨rfl, -⟩ := r1
  refine qq (q_indexAddr Sl_35 rfl rfl ph0 hx1) rfl <| qq (q_load1 T1_3 rfl (fun w1 hw => (g1.of_eq 0 1 rfl rfl : rg _ _ _ [.int .i64 x1]).rangeAt hw.fro)) rfl <| qq (q_move rfl) rfl <| qq (q_move rfl) rfl ?_
  obtain ⟨x2, hx2, h⟩ := bs h
  obtain ⟨cs2, F2, -, g2, hb2, hs2, r2⟩ := ph1.el (idx_some hx2).2.2
  obtain ⟨rfl, -⟩ := r2
  refine qq (q_indexAddr Sl_35 rfl rfl ph1 hx2) rfl <| qq (q_load1 T1_3 rfl (fun w1 hw => (g2.of_eq 0 1 rfl rfl : rg _ _ _ [.int .i64 x2]).rangeAt hw.fro)) rfl <| qq (q_neq rfl rfl) rfl <| WQ.nil ?_
  refine cdh rfl h (fun c3 h => ?_) (fun c3 h => ?_)
  ·refine sr <| la rfl <| en ?_
   refine WT.ret Try.func28 (resOk.one rfl) (fun w1 hw => ?_)
   subst hb0
   cases h
   exact post_of_St hw
  refine WT.skip <| ib <| rgn <| la rfl <| la rfl <| en ?_
  exact lback (ih1 (IntKind.i64.wrap (s1 + 1)) h) ⟨rfl, rfl, rfl, rfl, trivial⟩ (fun w1 hw => (hw.sel (js := []) rfl).selO (js := []) rfl)
 refine xt rfl <| sr <| la rfl <| en ?_
 refine WT.ret Try.func28 (resOk.one rfl) (fun w1 hw => ?_)
 subst hb0
 cases h
 exact post_of_St hw
theorem m_i_SameAlpha_ok {Φ : Hp} {w : World} (hΦ : In Φ w) (N : Nat) (p0 : TAlpha) (p1 : TAlpha) {pv0_0 pv0_1 pv1_0 pv1_1 : Value} {pG0_0 pG0_1 pG1_0 pG1_1 : List Nat} (ph0_0 : RSl RTVal 3 Φ pG0_0 pv0_0 p0.Consts) (ph0_1 : RSl (RI .i64) 1 Φ pG0_1 pv0_1 p0.At) (ph1_0 : RSl RTVal 3 Φ pG1_0 pv1_0 p1.Consts) (ph1_1 : RSl (RI .i64) 1 Φ pG1_1 pv1_1 p1.At) {r : Bool} (h : m_i_SameAlpha N p0 p1 = some r) :
  Calls Try.prog 10 [.agg [.string p0.Kind, .int .i64 p0.N, pv0_0, pv0_1].toArray, .agg [.string p1.Kind, .int .i64 p1.N, pv1_0, pv1_1].toArray].toArray w (Post (.bool r) w) := by
 refine enter Try.func10 rfl Try.ntmps10 rfl (St.start0 hΦ) ?_
 unfold m_i_SameAlpha at h
 refine sr ?_
 refine ln (nb rfl) rfl (fun b_1 => ?_)
 refine ln (nb rfl) rfl (fun b_2 => ?_)
 refine la rfl <| en <| sr <| lf Fld_37_0 rfl rfl rfl <| lo T1_9 1 rfl <| lf Fld_37_0 rfl rfl rfl <| lo T1_9 0 rfl <| la rfl <| la rfl ?_
 obtain ⟨b1, hb_1, h⟩ := bs h
 refine WL.cutN 6 [(16, .bool b1), (2, .pointer (some ⟨b_1, 0, none⟩)), (3, .pointer (some ⟨b_2, 0, none⟩)), (4, .bool false)] ?_ (fun K => ?_)
 rotate_left
 ·refine spl 10 rfl hb_1 (fun c1 hb_1 => ?_) (fun c1 hb_1 => ?_)
  ·refine ly rfl rfl <| lf Fld_37_1 rfl rfl rfl <| ly rfl rfl <| lo T1_3 1 rfl <| ly rfl rfl <| lf Fld_37_1 rfl rfl rfl <| ly rfl rfl <| lo T1_3 0 rfl <| ly rfl rfl <| la rfl <| la rfl ?_
   cases hb_1
   exact kk K ⟨rfl, rfl, rfl, rfl, trivial⟩
  ·refine la rfl <| la rfl <| la rfl <| la rfl <| la rfl <| la rfl ?_
   cases hb_1
   exact kk K ⟨rfl, rfl, rfl, rfl, trivial⟩
 refine la rfl ?_
 obtain ⟨b2, hb_2, h⟩ := bs h
 refine WL.cutN 6 [(23, .bool b2), (2, .pointer (some ⟨b_1, 0, none⟩)), (3, .pointer (some ⟨b_2, 0, none⟩)), (4, .bool false)] ?_ (fun K => ?_)
 rotate_left
 ·refine spl 17 rfl hb_2 (fun c2 hb_2 => ?_) (fun c2 hb_2 => ?_)
  ·refine ly rfl rfl <| lf Fld_37_2 rfl rfl rfl <| ly rfl rfl <| lo T1_27 1 rfl <| ly rfl rfl <| lf Fld_37_2 rfl rfl rfl <| ly rfl rfl <| lo T1_27 0 rfl <| ly rfl rfl ?_
   obtain ⟨x1, hx1, hb_2⟩ := bs hb_2
   refine lp (p_call Fun_27 rfl (fun w1 hw => m_sl_Equal_Si_Val_i_Val_ok hw.fro N p0.Consts p1.Consts ph0_0 ph1_0 hx1)) rfl <| la rfl ?_
   cases hb_2
   exact kk K ⟨rfl, rfl, rfl, rfl, trivial⟩
  ·refine la rfl <| la rfl <| la rfl <| la rfl <| la rfl <| la rfl ?_
   cases hb_2
   exact kk K ⟨rfl, rfl, rfl, rfl, trivial⟩
 refine la rfl ?_
 obtain ⟨b3, hb_3, h⟩ := bs h
 refine WL.cutN 6 [(30, .bool b3), (4, .bool false)] ?_ (fun K => ?_)
 rotate_left
 ·refine spl 24 rfl hb_3 (fun c3 hb_3 => ?_) (fun c3 hb_3 => ?_)
  ·refine ly rfl rfl <| lf Fld_37_3 rfl rfl rfl <| ly rfl rfl <| lo T1_35 1 rfl <| ly rfl rfl <| lf Fld_37_3 rfl rfl rfl <| ly rfl rfl <| lo T1_35 0 rfl <| ly rfl rfl ?_
   obtain ⟨x2, hx2, hb_3⟩ := bs hb_3
   refine lp (p_call Fun_28 rfl (fun w1 hw => m_sl_Equal_Sint_int_ok hw.fro N p0.At p1.At ph0_1 ph1_1 hx2)) rfl <| la rfl ?_
   cases hb_3
   exact kk K ⟨rfl, rfl, trivial⟩
  ·refine la rfl <| la rfl <| la rfl <| la rfl <| la rfl <| la rfl ?_
   cases hb_3
   exact kk K ⟨rfl, rfl, trivial⟩
 refine la rfl <| en ?_
 refine WT.ret Try.func10 (resOk.one rfl) (fun w1 hw => ?_)
 cases h
 exact post_of_St hw
theorem m_s_l11Same_ok {Φ : Hp} {w : World} (hΦ : In Φ w) (N : Nat) (p0 : (List Int)) (p1 : (List Int)) {pv0 pv1 : Value} {pG0 pG1 : List Nat} (ph0 : RSl (RI .i64) 1 Φ pG0 pv0 p0) (ph1 : RSl (RI .i64) 1 Φ pG1 pv1 p1) {r : Bool} (h : m_s_l11Same N p0 p1 = some r) :
  Calls Try.prog 29 [pv0, pv1].toArray w (Post (.bool r) w) := by
 refine enter Try.func29 rfl Try.ntmps29 rfl (St.start0 hΦ) ?_
 generalize hb0 : (⟨w, [], Φ⟩ : Base) = w0
 unfold m_s_l11Same at h
 refine sr <| la rfl <| en <| sq <| sr <| la rfl <| lq (q_lenR Sl_35 rfl rfl ph0) rfl <| la rfl <| lq (q_lenR Sl_35 rfl rfl ph1) rfl <| la rfl <| en ?_
 refine cdh rfl h (fun c1 h => ?_) (fun c1 h => ?_)
 ·refine sr <| la rfl <| en ?_
  refine WT.ret Try.func29 (resOk.one rfl) (fun w1 hw => ?_)
  subst hb0
  cases h
  exact post_of_St hw
 refine WT.skip <| sq <| sr <| la rfl <| en <| blk ?_
 refine loop_in (σ := Int) (fun s => [(0, pv0), (1, pv1), (5, .int .i64 s)]) (fun s => St w0 Φ [] []) (fun m s => m_s_l11Same_l1 N p0 p1 m s = some r) (0) N h ⟨rfl, rfl, rfl, trivial⟩ (fun w1 hw => (hw.sel (js := []) rfl).selO (js := []) rfl) (fun s hm => none_ne hm) (fun n1 ih1 s hm => ?_)
 revert hm; revert s; intro s1 hm
 have h : m_s_l11Same_l1 N p0 p1 (n1 + 1) s1 = some r := hm
 show WT _ _ [(0, pv0), (1, pv1), (5, .int .i64 s1)] (St w0 Φ [] [])
 unfold m_s_l11Same_l1 at h
 refine sq <| sr <| la rfl <| la rfl <| lq (q_lenR Sl_35 rfl rfl ph0) rfl <| la rfl <| en ?_
 refine cdh rfl h (fun c2 h => ?_) (fun c2 h => ?_)
 ·refine WT.skip <| sq <| blk <| sq <| WT.draw mixed (by kernel_rfl) (fun _ h => h.drew) <| qq (q_move rfl) rfl <| qq (q_move rfl) rfl ?_
  obtain ⟨x1, hx1, h⟩ := bs h
  obtain ⟨cs1, F1, -, g1, hb1, hs1, r1⟩ := ph0.el (idx_some hx1).2.2
  obtain ⟨rfl, -⟩ := r1
  refine qq (q_indexAddr Sl_35 rfl rfl ph0 hx1) rfl <| qq (q_load1 T1_3 rfl (fun w1 hw => (g1.of_eq 0 1 rfl rfl : rg _ _ _ [.int .i64 x1]).rangeAt hw.fro)) rfl <| qq (q_move rfl) rfl <| qq (q_move rfl) rfl ?_
  obtain ⟨x2, hx2, h⟩ := bs h
  obtain ⟨cs2, F2, -, g2, hb2, hs2, r2⟩ := ph1.el (idx_some hx2).2.2
  obtain ⟨rfl, -⟩ := r2
  refine qq (q_indexAddr Sl_35 rfl rfl ph1 hx2) rfl <| qq (q_load1 T1_3 rfl (fun w1 hw => (g2.of_eq 0 1 rfl rfl : rg _ _ _ [.int .i64 x2]).rangeAt hw.fro)) rfl <| qq (q_neq rfl rfl) rfl <| WQ.nil ?_
  refine cdh rfl h (fun c3 h => ?_) (fun c3 h => ?_)
  ·refine sr <| la rfl <| en ?_
   refine WT.ret Try.func29 (resOk.one rfl) (fun w1 hw => ?_)
   subst hb0
   cases h
   exact post_of_St hw
  refine WT.skip <| ib <| rgn <| la rfl <| la rfl <| la rfl <| en ?_
  exact lback (ih1 (IntKind.i64.wrap (s1 + 1)) h) ⟨rfl, rfl, rfl, trivial⟩ (fun w1 hw => (hw.sel (js := []) rfl).selO (js := []) rfl)
 refine xt rfl <| sr <| la rfl <| en ?_
 refine WT.ret Try.func29 (resOk.one rfl) (fun w1 hw => ?_)
 subst hb0
 cases h
 exact post_of_St hw
theorem m_s_l3SameVals_ok {Φ : Hp} {w : World} (hΦ : In Φ w) (N : Nat) (p0 : (List TVal)) (p1 : (List TVal)) {pv0 pv1 : Value} {pG0 pG1 : List Nat} (ph0 : RSl RTVal 3 Φ pG0 pv0 p0) (ph1 : RSl RTVal 3 Φ pG1 pv1 p1) {r : Bool} (h : m_s_l3SameVals N p0 p1 = some r) :
  Calls Try.prog 30 [pv0, pv1].toArray w (Post (.bool r) w) := by
 refine enter Try.func30 rfl Try.ntmps30 rfl (St.start0 hΦ) ?_
 generalize hb0 : (⟨w, [], Φ⟩ : Base) = w0
 unfold m_s_l3SameVals at h
 refine sr <| la rfl <| en <| sq <| sr <| la rfl <| lq (q_lenR Sl_27 rfl rfl ph0) rfl <| la rfl <| lq (q_lenR Sl_27 rfl rfl ph1) rfl <| la rfl <| en ?_
 refine cdh rfl h (fun c1 h => ?_) (fun c1 h => ?_)
 ·refine sr <| la rfl <| en ?_
  refine WT.ret Try.func30 (resOk.one rfl) (fun w1 hw => ?_)
  subst hb0
  cases h
  exact post_of_St hw
 refine WT.skip <| sq <| sr <| la rfl <| en <| blk ?_
 refine loop_in (σ := Int) (fun s => [(0, pv0), (1, pv1), (5, .int .i64 s)]) (fun s => St w0 Φ [] []) (fun m s => m_s_l3SameVals_l1 N p0 p1 m s = some r) (0) N h ⟨rfl, rfl, rfl, trivial⟩ (fun w1 hw => (hw.sel (js := []) rfl).selO (js := []) rfl) (fun s hm => none_ne hm) (fun n1 ih1 s hm => ?_)
 revert hm; revert s; intro s1 hm
 have h : m_s_l3SameVals_l1 N p0 p1 (n1 + 1) s1 = some r := hm
 show WT _ _ [(0, pv0), (1, pv1), (5, .int .i64 s1)] (St w0 Φ [] [])
 unfold m_s_l3SameVals_l1 at h
 refine sq <| sr <| la rfl <| la rfl <| lq (q_lenR Sl_27 rfl rfl ph0) rfl <| la rfl <| en ?_
 refine cdh rfl h (fun c2 h => ?_) (fun c2 h => ?_)
 ·refine WT.skip <| sq <| blk <| sq <| WT.draw mixed (by kernel_rfl) (fun _ h => h.drew) <| qq (q_move rfl) rfl <| qq (q_move rfl) rfl ?_
  obtain ⟨x1, hx1, h⟩ := bs h
  obtain ⟨cs1, F1, -, g1, hb1, hs1, r1⟩ := ph0.el (idx_some hx1).2.2
  obtain ⟨rfl, -⟩ := r1
  refine qq (q_indexAddr Sl_27 rfl rfl ph0 hx1) rfl <| qq (q_loadN Tn_51 rfl (fun w1 hw => (g1.of_eq 0 3 rfl rfl : rg _ _ _ [.int .i64 x1.K, .int .i64 x1.N, .string x1.S]).rangeAt hw.fro) rfl) rfl <| qq (q_move rfl) rfl <| qq (q_move rfl) rfl ?_
  obtain ⟨x2, hx2, h⟩ := bs h
  obtain ⟨cs2, F2, -, g2, hb2, hs2, r2⟩ := ph1.el (idx_some hx2).2.2
  obtain ⟨rfl, -⟩ := r2
  refine qq (q_indexAddr Sl_27 rfl rfl ph1 hx2) rfl <| qq (q_loadN Tn_51 rfl (fun w1 hw => (g2.of_eq 0 3 rfl rfl : rg _ _ _ [.int .i64 x2.K, .int .i64 x2.N, .string x2.S]).rangeAt hw.fro) rfl) rfl <| qq (q_neA EqT_51 rfl rfl rfl (r := eqT_TVal x1 x2) rfl) rfl <| WQ.nil ?_
  refine cdh rfl h (fun c3 h => ?_) (fun c3 h => ?_)
  ·refine sr <| la rfl <| en ?_
   refine WT.ret Try.func30 (resOk.one rfl) (fun w1 hw => ?_)
   subst hb0
   cases h
   exact post_of_St hw
  refine WT.skip <| ib <| rgn <| la rfl <| la rfl <| la rfl <| en ?_
  exact lback (ih1 (IntKind.i64.wrap (s1 + 1)) h) ⟨rfl, rfl, rfl, trivial⟩ (fun w1 hw => (hw.sel (js := []) rfl).selO (js := []) rfl)
 refine xt rfl <| sr <| la rfl <| en ?_
 refine WT.ret Try.func30 (resOk.one rfl) (fun w1 hw => ?_)
 subst hb0
 cases h
 exact post_of_St hw
theorem m_s_SameAlpha_ok {Φ : Hp} {w : World} (hΦ : In Φ w) (N : Nat) (p0 : TAlpha) (p1 : TAlpha) {pv0_0 pv0_1 pv1_0 pv1_1 : Value} {pG0_0 pG0_1 pG1_0 pG1_1 : List Nat} (ph0_0 : RSl RTVal 3 Φ pG0_0 pv0_0 p0.Consts) (ph0_1 : RSl (RI .i64) 1 Φ pG0_1 pv0_1 p0.At) (ph1_0 : RSl RTVal 3 Φ pG1_0 pv1_0 p1.Consts) (ph1_1 : RSl (RI .i64) 1 Φ pG1_1 pv1_1 p1.At) {r : Bool} (h : m_s_SameAlpha N p0 p1 = some r) :
  Calls Try.prog 12 [.agg [.string p0.Kind, .int .i64 p0.N, pv0_0, pv0_1].toArray, .agg [.string p1.Kind, .int .i64 p1.N, pv1_0, pv1_1].toArray].toArray w (Post (.bool r) w) := by
 refine enter Try.func12 rfl Try.ntmps12 rfl (St.start0 hΦ) ?_
 unfold m_s_SameAlpha at h
 refine sr ?_
 refine ln (nb rfl) rfl (fun b_1 => ?_)
 refine ln (nb rfl) rfl (fun b_2 => ?_)
 refine la rfl <| en <| sr <| lf Fld_37_0 rfl rfl rfl <| lo T1_9 1 rfl <| lf Fld_37_0 rfl rfl rfl <| lo T1_9 0 rfl <| la rfl <| la rfl ?_
 obtain ⟨b1, hb_1, h⟩ := bs h
 refine WL.cutN 6 [(16, .bool b1), (2, .pointer (some ⟨b_1, 0, none⟩)), (3, .pointer (some ⟨b_2, 0, none⟩)), (4, .bool false)] ?_ (fun K => ?_)
 rotate_left
 ·refine spl 10 rfl hb_1 (fun c1 hb_1 => ?_) (fun c1 hb_1 => ?_)
  ·refine ly rfl rfl <| lf Fld_37_1 rfl rfl rfl <| ly rfl rfl <| lo T1_3 1 rfl <| ly rfl rfl <| lf Fld_37_1 rfl rfl rfl <| ly rfl rfl <| lo T1_3 0 rfl <| ly rfl rfl <| la rfl <| la rfl ?_
   cases hb_1
   exact kk K ⟨rfl, rfl, rfl, rfl, trivial⟩
  ·refine la rfl <| la rfl <| la rfl <| la rfl <| la rfl <| la rfl ?_
   cases hb_1
   exact kk K ⟨rfl, rfl, rfl, rfl, trivial⟩
 refine la rfl ?_
 obtain ⟨b2, hb_2, h⟩ := bs h
 refine WL.cutN 6 [(23, .bool b2), (2, .pointer (some ⟨b_1, 0, none⟩)), (3, .pointer (some ⟨b_2, 0, none⟩)), (4, .bool false)] ?_ (fun K => ?_)
 rotate_left
 ·refine spl 17 rfl hb_2 (fun c2 hb_2 => ?_) (fun c2 hb_2 => ?_)
  ·refine ly rfl rfl <| lf Fld_37_3 rfl rfl rfl <| ly rfl rfl <| lo T1_35 1 rfl <| ly rfl rfl <| lf Fld_37_3 rfl rfl rfl <| ly rfl rfl <| lo T1_35 0 rfl <| ly rfl rfl ?_
   obtain ⟨x1, hx1, hb_2⟩ := bs hb_2
   refine lp (p_call Fun_29 rfl (fun w1 hw => m_s_l11Same_ok hw.fro N p0.At p1.At ph0_1 ph1_1 hx1)) rfl <| la rfl ?_
   cases hb_2
   exact kk K ⟨rfl, rfl, rfl, rfl, trivial⟩
  ·refine la rfl <| la rfl <| la rfl <| la rfl <| la rfl <| la rfl ?_
   cases hb_2
   exact kk K ⟨rfl, rfl, rfl, rfl, trivial⟩
 refine la rfl ?_
 obtain ⟨b3, hb_3, h⟩ := bs h
 refine WL.cutN 6 [(30, .bool b3), (4, .bool false)] ?_ (fun K => ?_)
 rotate_left
 ·refine spl 24 rfl hb_3 (fun c3 hb_3 => ?_) (fun c3 hb_3 => ?_)
  ·refine ly rfl rfl <| lf Fld_37_2 rfl rfl rfl <| ly rfl rfl <| lo T1_27 1 rfl <| ly rfl rfl <| lf Fld_37_2 rfl rfl rfl <| ly rfl rfl <| lo T1_27 0 rfl <| ly rfl rfl ?_
   obtain ⟨x2, hx2, hb_3⟩ := bs hb_3
   refine lp (p_call Fun_30 rfl (fun w1 hw => m_s_l3SameVals_ok hw.fro N p0.Consts p1.Consts ph0_0 ph1_0 hx2)) rfl <| la rfl ?_
   cases hb_3
   exact kk K ⟨rfl, rfl, trivial⟩
  ·refine la rfl <| la rfl <| la rfl <| la rfl <| la rfl <| la rfl ?_
   cases hb_3
   exact kk K ⟨rfl, rfl, trivial⟩
 refine la rfl <| en ?_
 refine WT.ret Try.func12 (resOk.one rfl) (fun w1 hw => ?_)
 cases h
 exact post_of_St hw
theorem m_i_Passes_ok {Φ : Hp} {w : World} (hΦ : In Φ w) (N : Nat) (p0 : TAlpha) (p1 : TFact) {pv0_0 pv0_1 pv1_0 : Value} {pG0_0 pG0_1 pG1_0 : List Nat} (ph0_0 : RSl RTVal 3 Φ pG0_0 pv0_0 p0.Consts) (ph0_1 : RSl (RI .i64) 1 Φ pG0_1 pv0_1 p0.At) (ph1_0 : RSl RTVal 3 Φ pG1_0 pv1_0 p1.Fields) {r : Bool} (h : m_i_Passes N p0 p1 = some r) :
  Calls Try.prog 13 [.agg [.string p0.Kind, .int .i64 p0.N, pv0_0, pv0_1].toArray, .agg [.string p1.Kind, pv1_0].toArray].toArray w (Post (.bool r) w) := by
 refine enter Try.func13 rfl Try.ntmps13 rfl (St.start0 hΦ) ?_
 generalize hb0 : (⟨w, [], Φ⟩ : Base) = w0
 unfold m_i_Passes at h
 refine sr ?_
 refine ln (nb rfl) rfl (fun b_1 => ?_)
 refine ln (nb rfl) rfl (fun b_2 => ?_)
 refine la rfl <| en <| sq <| sr <| lf Fld_29_0 rfl rfl rfl <| lo T1_9 0 rfl <| lf Fld_37_0 rfl rfl rfl <| lo T1_9 1 rfl <| la rfl <| la rfl ?_
 obtain ⟨b1, hb_1, h⟩ := bs h
 refine WL.cutN 7 [(19, .bool b1), (2, .pointer (some ⟨b_1, 0, none⟩)), (3, .pointer (some ⟨b_2, 0, none⟩))] ?_ (fun K => ?_)
 rotate_left
 ·refine spl 12 rfl hb_1 (fun c1 hb_1 => ?_) (fun c1 hb_1 => ?_)
  ·refine la rfl <| la rfl <| la rfl <| la rfl <| la rfl <| la rfl <| la rfl ?_
   cases hb_1
   exact kk K ⟨rfl, rfl, rfl, trivial⟩
  ·refine ly rfl rfl <| lf Fld_29_1 rfl rfl rfl <| ly rfl rfl <| lo T1_27 0 rfl <| ly rfl rfl <| lq (q_lenR Sl_27 rfl rfl ph1_0) rfl <| ly rfl rfl <| lf Fld_37_1 rfl rfl rfl <| ly rfl rfl <| lo T1_3 1 rfl <| ly rfl rfl <| la rfl <| la rfl ?_
   cases hb_1
   exact kk K ⟨rfl, rfl, rfl, trivial⟩
 refine en ?_
 refine cdh rfl h (fun c2 h => ?_) (fun c2 h => ?_)
 ·refine sr <| la rfl <| en ?_
  refine WT.ret Try.func13 (resOk.one rfl) (fun w1 hw => ?_)
  subst hb0
  cases h
  exact post_of_St hw
 refine WT.skip <| sq <| sr <| lf Fld_37_3 rfl rfl rfl <| lo T1_35 1 rfl <| lq (q_lenR Sl_35 rfl rfl ph0_1) rfl <| la rfl <| en <| blk ?_
 refine loop_in (σ := Int) (fun s => [(2, .pointer (some ⟨b_1, 0, none⟩)), (3, .pointer (some ⟨b_2, 0, none⟩)), (21, pv0_1), (22, .int .i64 (p0.At.length : Int)), (23, .int .i64 s)]) (fun s => St w0 Φ [(b_2, .cells #[.string p1.Kind, pv1_0] 29 (0, 0)), (b_1, .cells #[.string p0.Kind, .int .i64 p0.N, pv0_0, pv0_1] 37 (0, 0))] []) (fun m s => m_i_Passes_l1 N p0 p1 m s = some r) (0) N h ⟨rfl, rfl, rfl, rfl, rfl, trivial⟩ (fun w1 hw => (hw.sel (js := []) rfl).selO (js := [0, 0]) rfl) (fun s hm => none_ne hm) (fun n1 ih1 s hm => ?_)
 revert hm; revert s; intro s1 hm
 have h : m_i_Passes_l1 N p0 p1 (n1 + 1) s1 = some r := hm
 show WT _ _ [(2, .pointer (some ⟨b_1, 0, none⟩)), (3, .pointer (some ⟨b_2, 0, none⟩)), (21, pv0_1), (22, .int .i64 (p0.At.length : Int)), (23, .int .i64 s1)] (St w0 Φ [(b_2, .cells #[.string p1.Kind, pv1_0] 29 (0, 0)), (b_1, .cells #[.string p0.Kind, .int .i64 p0.N, pv0_0, pv0_1] 37 (0, 0))] [])
 unfold m_i_Passes_l1 at h
 refine sr <| la rfl <| en <| sq ?_
 refine cdh rfl h (fun c3 h => ?_) (fun c3 h => ?_)
 ·refine WT.skip <| sq <| blk <| sr <| la rfl ?_
  obtain ⟨x1, hx1, h⟩ := bs h
  obtain ⟨cs1, F1, -, g1, hb1, hs1, r1⟩ := ph0_1.el (idx_some hx1).2.2
  obtain ⟨rfl, -⟩ := r1
  refine lq (q_indexAddr Sl_35 rfl rfl ph0_1 hx1) rfl <| lg 0 T1_3 g1 rfl rfl <| la rfl <| la rfl <| en <| sq <| WT.draw mixed (by kernel_rfl) (fun _ h => h.drew) <| qq (q_move rfl) rfl <| qq (q_lss rfl rfl) rfl <| qq (q_move rfl) rfl ?_
  obtain ⟨b2, hb_2, h⟩ := bs h
  refine WQ.cutN 6 [(36, .bool b2), (2, .pointer (some ⟨b_1, 0, none⟩)), (3, .pointer (some ⟨b_2, 0, none⟩)), (5, .int .i64 s1), (6, .int .i64 x1), (21, pv0_1), (22, .int .i64 (p0.At.length : Int)), (23, .int .i64 s1)] ?_ (fun K => ?_)
  rotate_left
  ·refine WQ.split (d := 30) rfl (fun c4 => ?_) (fun c4 => ?_)
   ·replace hb_2 := ite_t hb_2 c4
    refine WQ.no rfl rfl rfl rfl <| WQ.no rfl rfl rfl rfl <| WQ.no rfl rfl rfl rfl <| WQ.no rfl rfl rfl rfl <| WQ.no rfl rfl rfl rfl <| WQ.q (q_pick1 rfl rfl) rfl rfl rfl ?_
    cases hb_2
    exact WQ.keep (by exact ⟨rfl, rfl, rfl, rfl, rfl, rfl, rfl, rfl, trivial⟩) K
   ·replace hb_2 := ite_f hb_2 c4
    refine WQ.yes rfl rfl <| qq (q_move rfl) rfl <| WQ.yes rfl rfl <| qq (q_fieldAddr Fld_29_1 rfl) rfl <| WQ.yes rfl rfl <| qq (q_load1 T1_27 rfl (fun w1 hw => hw.rgO (i := 0) rfl 1 1 [pv1_0] rfl)) rfl <| WQ.yes rfl rfl <| qq (q_lenR Sl_27 rfl rfl ph1_0) rfl <| WQ.yes rfl rfl <| qq (q_geq rfl rfl) rfl <| WQ.q (q_pick0 rfl rfl) rfl rfl rfl ?_
    cases hb_2
    exact WQ.keep (by exact ⟨rfl, rfl, rfl, rfl, rfl, rfl, rfl, rfl, trivial⟩) K
  refine qq (q_move rfl) rfl ?_
  obtain ⟨b3, hb_3, h⟩ := bs h
  refine WQ.cutN 6 [(43, .bool b3), (2, .pointer (some ⟨b_1, 0, none⟩)), (3, .pointer (some ⟨b_2, 0, none⟩)), (5, .int .i64 s1), (6, .int .i64 x1), (21, pv0_1), (22, .int .i64 (p0.At.length : Int)), (23, .int .i64 s1)] ?_ (fun K => ?_)
  rotate_left
  ·refine WQ.split (d := 37) rfl (fun c5 => ?_) (fun c5 => ?_)
   ·replace hb_3 := ite_t hb_3 c5
    refine WQ.no rfl rfl rfl rfl <| WQ.no rfl rfl rfl rfl <| WQ.no rfl rfl rfl rfl <| WQ.no rfl rfl rfl rfl <| WQ.no rfl rfl rfl rfl <| WQ.q (q_pick1 rfl rfl) rfl rfl rfl ?_
    cases hb_3
    exact WQ.keep (by exact ⟨rfl, rfl, rfl, rfl, rfl, rfl, rfl, rfl, trivial⟩) K
   ·replace hb_3 := ite_f hb_3 c5
    refine WQ.yes rfl rfl <| qq (q_move rfl) rfl <| WQ.yes rfl rfl <| qq (q_fieldAddr Fld_37_2 rfl) rfl <| WQ.yes rfl rfl <| qq (q_load1 T1_27 rfl (fun w1 hw => hw.rgO (i := 1) rfl 2 1 [pv0_0] rfl)) rfl <| WQ.yes rfl rfl <| qq (q_lenR Sl_27 rfl rfl ph0_0) rfl <| WQ.yes rfl rfl <| qq (q_geq rfl rfl) rfl <| WQ.q (q_pick0 rfl rfl) rfl rfl rfl ?_
    cases hb_3
    exact WQ.keep (by exact ⟨rfl, rfl, rfl, rfl, rfl, rfl, rfl, rfl, trivial⟩) K
  refine qq (q_move rfl) rfl ?_
  obtain ⟨b4, hb_4, h⟩ := bs h
  refine WQ.cutN 12 [(56, .bool b4), (2, .pointer (some ⟨b_1, 0, none⟩)), (3, .pointer (some ⟨b_2, 0, none⟩)), (21, pv0_1), (22, .int .i64 (p0.At.length : Int)), (23, .int .i64 s1)] ?_ (fun K => ?_)
  rotate_left
  ·refine WQ.split (d := 44) rfl (fun c6 => ?_) (fun c6 => ?_)
   ·replace hb_4 := ite_t hb_4 c6
    refine WQ.no rfl rfl rfl rfl <| WQ.no rfl rfl rfl rfl <| WQ.no rfl rfl rfl rfl <| WQ.no rfl rfl rfl rfl <| WQ.no rfl rfl rfl rfl <| WQ.no rfl rfl rfl rfl <| WQ.no rfl rfl rfl rfl <| WQ.no rfl rfl rfl rfl <| WQ.no rfl rfl rfl rfl <| WQ.no rfl rfl rfl rfl <| WQ.no rfl rfl rfl rfl <| WQ.q (q_pick1 rfl rfl) rfl rfl rfl ?_
    cases hb_4
    exact WQ.keep (by exact ⟨rfl, rfl, rfl, rfl, rfl, rfl, trivial⟩) K
   ·replace hb_4 := ite_f hb_4 c6
    refine WQ.yes rfl rfl <| qq (q_fieldAddr Fld_29_1 rfl) rfl <| WQ.yes rfl rfl <| qq (q_load1 T1_27 rfl (fun w1 hw => hw.rgO (i := 0) rfl 1 1 [pv1_0] rfl)) rfl <| WQ.yes rfl rfl <| qq (q_move rfl) rfl <| WQ.yes rfl rfl ?_
    obtain ⟨x2, hx2, hb_4⟩ := bs hb_4
    obtain ⟨cs2, F2, -, g2, hb2, hs2, r2⟩ := ph1_0.el (idx_some hx2).2.2
    obtain ⟨rfl, -⟩ := r2
    refine qq (q_indexAddr Sl_27 rfl rfl ph1_0 hx2) rfl <| WQ.yes rfl rfl <| qq (q_loadN Tn_51 rfl (fun w1 hw => (g2.of_eq 0 3 rfl rfl : rg _ _ _ [.int .i64 x2.K, .int .i64 x2.N, .string x2.S]).rangeAt hw.fro) rfl) rfl <| WQ.yes rfl rfl <| qq (q_fieldAddr Fld_37_2 rfl) rfl <| WQ.yes rfl rfl <| qq (q_load1 T1_27 rfl (fun w1 hw => hw.rgO (i := 1) rfl 2 1 [pv0_0] rfl)) rfl <| WQ.yes rfl rfl <| qq (q_move rfl) rfl <| WQ.yes rfl rfl ?_
    obtain ⟨x3, hx3, hb_4⟩ := bs hb_4
    obtain ⟨cs3, F3, -, g3, hb3, hs3, r3⟩ := ph0_0.el (idx_some hx3).2.2
    obtain ⟨rfl, -⟩ := r3
    refine qq (q_indexAddr Sl_27 rfl rfl ph0_0 hx3) rfl <| WQ.yes rfl rfl <| qq (q_loadN Tn_51 rfl (fun w1 hw => (g3.of_eq 0 3 rfl rfl : rg _ _ _ [.int .i64 x3.K, .int .i64 x3.N, .string x3.S]).rangeAt hw.fro) rfl) rfl <| WQ.yes rfl rfl <| qq (q_neA EqT_51 rfl rfl rfl (r := eqT_TVal x2 x3) rfl) rfl <| WQ.q (q_pick0 rfl rfl) rfl rfl rfl ?_
    cases hb_4
    exact WQ.keep (by exact ⟨rfl, rfl, rfl, rfl, rfl, rfl, trivial⟩) K
  refine WQ.nil ?_
  refine cdh rfl h (fun c7 h => ?_) (fun c7 h => ?_)
  ·refine sr <| la rfl <| en ?_
   refine WT.ret Try.func13 (resOk.one rfl) (fun w1 hw => ?_)
   subst hb0
   cases h
   exact post_of_St hw
  refine WT.skip <| ib <| rgn <| la rfl <| la rfl <| en ?_
  exact lback (ih1 (IntKind.i64.wrap (s1 + 1)) h) ⟨rfl, rfl, rfl, rfl, rfl, trivial⟩ (fun w1 hw => (hw.sel (js := []) rfl).selO (js := [0, 0]) rfl)
 refine xt rfl <| sr <| la rfl <| en ?_
 refine WT.ret Try.func13 (resOk.one rfl) (fun w1 hw => ?_)
 subst hb0
 cases h
 exact post_of_St hw
theorem m_s_l1In_ok {Φ : Hp} {w : World} (hΦ : In Φ w) (N : Nat) (p0 : Int) (p1 : Int) (p2 : Int)   {r : Bool} (h : m_s_l1In N p0 p1 p2 = some r) :
  Calls Try.prog 31 [.int .i64 p0, .int .i64 p1, .int .i64 p2].toArray w (Post (.bool r) w) := by
 refine enter Try.func31 rfl Try.ntmps31 rfl (St.start0 hΦ) ?_
 unfold m_s_l1In at h
 refine sr <| la rfl <| en <| sr <| la rfl <| la rfl <| la rfl <| la rfl ?_
 obtain ⟨b1, hb_1, h⟩ := bs h
 refine WL.cutN 4 [(14, .bool b1), (6, .bool false)] ?_ (fun K => ?_)
 rotate_left
 ·refine spl 10 rfl hb_1 (fun c1 hb_1 => ?_) (fun c1 hb_1 => ?_)
  ·refine ly rfl rfl <| la rfl <| ly rfl rfl <| la rfl <| ly rfl rfl <| la rfl <| la rfl ?_
   cases hb_1
   exact kk K ⟨rfl, rfl, trivial⟩
  ·refine la rfl <| la rfl <| la rfl <| la rfl ?_
   cases hb_1
   exact kk K ⟨rfl, rfl, trivial⟩
 refine la rfl <| en ?_
 refine WT.ret Try.func31 (resOk.one rfl) (fun w1 hw => ?_)
 cases h
 exact post_of_St hw
theorem m_s_Passes_ok {Φ : Hp} {w : World} (hΦ : In Φ w) (N : Nat) (p0 : TAlpha) (p1 : TFact) {pv0_0 pv0_1 pv1_0 : Value} {pG0_0 pG0_1 pG1_0 : List Nat} (ph0_0 : RSl RTVal 3 Φ pG0_0 pv0_0 p0.Consts) (ph0_1 : RSl (RI .i64) 1 Φ pG0_1 pv0_1 p0.At) (ph1_0 : RSl RTVal 3 Φ pG1_0 pv1_0 p1.Fields) {r : Bool} (h : m_s_Passes N p0 p1 = some r) :
  Calls Try.prog 14 [.agg [.string p0.Kind, .int .i64 p0.N, pv0_0, pv0_1].toArray, .agg [.string p1.Kind, pv1_0].toArray].toArray w (Post (.bool r) w) := by
 refine enter Try.func14 rfl Try.ntmps14 rfl (St.start0 hΦ) ?_
 generalize hb0 : (⟨w, [], Φ⟩ : Base) = w0
 unfold m_s_Passes at h
 refine sr ?_
 refine ln (nb rfl) rfl (fun b_1 => ?_)
 refine ln (nb rfl) rfl (fun b_2 => ?_)
 refine la rfl <| en <| sq <| sr <| lf Fld_37_0 rfl rfl rfl <| lo T1_9 1 rfl <| lf Fld_29_0 rfl rfl rfl <| lo T1_9 0 rfl <| la rfl <| la rfl ?_
 obtain ⟨b1, hb_1, h⟩ := bs h
 refine WL.cutN 7 [(19, .bool b1), (2, .pointer (some ⟨b_1, 0, none⟩)), (3, .pointer (some ⟨b_2, 0, none⟩))] ?_ (fun K => ?_)
 rotate_left
 ·refine spl 12 rfl hb_1 (fun c1 hb_1 => ?_) (fun c1 hb_1 => ?_)
  ·refine la rfl <| la rfl <| la rfl <| la rfl <| la rfl <| la rfl <| la rfl ?_
   cases hb_1
   exact kk K ⟨rfl, rfl, rfl, trivial⟩
  ·refine ly rfl rfl <| lf Fld_37_1 rfl rfl rfl <| ly rfl rfl <| lo T1_3 1 rfl <| ly rfl rfl <| lf Fld_29_1 rfl rfl rfl <| ly rfl rfl <| lo T1_27 0 rfl <| ly rfl rfl <| lq (q_lenR Sl_27 rfl rfl ph1_0) rfl <| ly rfl rfl <| la rfl <| la rfl ?_
   cases hb_1
   exact kk K ⟨rfl, rfl, rfl, trivial⟩
 refine en ?_
 refine cdh rfl h (fun c2 h => ?_) (fun c2 h => ?_)
 ·refine sr <| la rfl <| en ?_
  refine WT.ret Try.func14 (resOk.one rfl) (fun w1 hw => ?_)
  subst hb0
  cases h
  exact post_of_St hw
 refine WT.skip <| sq <| sr <| la rfl <| en <| blk ?_
 refine loop_in (σ := Int) (fun s => [(2, .pointer (some ⟨b_1, 0, none⟩)), (3, .pointer (some ⟨b_2, 0, none⟩)), (5, .int .i64 s)]) (fun s => St w0 Φ [(b_2, .cells #[.string p1.Kind, pv1_0] 29 (0, 0)), (b_1, .cells #[.string p0.Kind, .int .i64 p0.N, pv0_0, pv0_1] 37 (0, 0))] []) (fun m s => m_s_Passes_l1 N p0 p1 m s = some r) (0) N h ⟨rfl, rfl, rfl, trivial⟩ (fun w1 hw => (hw.sel (js := []) rfl).selO (js := [0, 0]) rfl) (fun s hm => none_ne hm) (fun n1 ih1 s hm => ?_)
 revert hm; revert s; intro s1 hm
 have h : m_s_Passes_l1 N p0 p1 (n1 + 1) s1 = some r := hm
 show WT _ _ [(2, .pointer (some ⟨b_1, 0, none⟩)), (3, .pointer (some ⟨b_2, 0, none⟩)), (5, .int .i64 s1)] (St w0 Φ [(b_2, .cells #[.string p1.Kind, pv1_0] 29 (0, 0)), (b_1, .cells #[.string p0.Kind, .int .i64 p0.N, pv0_0, pv0_1] 37 (0, 0))] [])
 unfold m_s_Passes_l1 at h
 refine sq <| sr <| la rfl <| lf Fld_37_3 rfl rfl rfl <| lo T1_35 1 rfl <| lq (q_lenR Sl_35 rfl rfl ph0_1) rfl <| la rfl <| en ?_
 refine cdh rfl h (fun c3 h => ?_) (fun c3 h => ?_)
 ·refine WT.skip <| sq <| blk <| sr <| lf Fld_37_3 rfl rfl rfl <| lo T1_35 1 rfl <| la rfl ?_
  obtain ⟨x1, hx1, h⟩ := bs h
  obtain ⟨cs1, F1, -, g1, hb1, hs1, r1⟩ := ph0_1.el (idx_some hx1).2.2
  obtain ⟨rfl, -⟩ := r1
  refine lq (q_indexAddr Sl_35 rfl rfl ph0_1 hx1) rfl <| lg 0 T1_3 g1 rfl rfl <| la rfl <| en <| sq <| WT.draw mixed (by kernel_rfl) (fun _ h => h.drew) <| qq (q_move rfl) rfl <| qq (q_fieldAddr Fld_37_2 rfl) rfl <| qq (q_load1 T1_27 rfl (fun w1 hw => hw.rgO (i := 1) rfl 2 1 [pv0_0] rfl)) rfl <| qq (q_lenR Sl_27 rfl rfl ph0_0) rfl <| qq (q_geq rfl rfl) rfl <| qq (q_move rfl) rfl ?_
  obtain ⟨b2, hb_2, h⟩ := bs h
  refine WQ.cutN 8 [(45, .bool b2), (2, .pointer (some ⟨b_1, 0, none⟩)), (3, .pointer (some ⟨b_2, 0, none⟩)), (5, .int .i64 s1), (6, .int .i64 x1)] ?_ (fun K => ?_)
  rotate_left
  ·refine WQ.split (d := 37) rfl (fun c4 => ?_) (fun c4 => ?_)
   ·replace hb_2 := ite_t hb_2 c4
    refine WQ.no rfl rfl rfl rfl <| WQ.no rfl rfl rfl rfl <| WQ.no rfl rfl rfl rfl <| WQ.no rfl rfl rfl rfl <| WQ.no rfl rfl rfl rfl <| WQ.no rfl rfl rfl rfl <| WQ.no rfl rfl rfl rfl <| WQ.q (q_pick1 rfl rfl) rfl rfl rfl ?_
    cases hb_2
    exact WQ.keep (by exact ⟨rfl, rfl, rfl, rfl, rfl, trivial⟩) K
   ·replace hb_2 := ite_f hb_2 c4
    refine WQ.yes rfl rfl <| qq (q_move rfl) rfl <| WQ.yes rfl rfl <| qq (q_fieldAddr Fld_29_1 rfl) rfl <| WQ.yes rfl rfl <| qq (q_load1 T1_27 rfl (fun w1 hw => hw.rgO (i := 0) rfl 1 1 [pv1_0] rfl)) rfl <| WQ.yes rfl rfl <| qq (q_lenR Sl_27 rfl rfl ph1_0) rfl <| WQ.yes rfl rfl <| qq (q_sub rfl rfl) rfl <| WQ.yes rfl rfl ?_
    obtain ⟨x2, hx2, hb_2⟩ := bs hb_2
    refine qp (p_call Fun_31 rfl (fun w1 hw => m_s_l1In_ok hw.fro N x1 0 (IntKind.i64.wrap ((p1.Fields.length : Int) - 1)) hx2)) rfl <| WQ.yes rfl rfl <| qq (q_not rfl) rfl <| WQ.q (q_pick0 rfl rfl) rfl rfl rfl ?_
    cases hb_2
    exact WQ.keep (by exact ⟨rfl, rfl, rfl, rfl, rfl, trivial⟩) K
  refine qq (q_move rfl) rfl ?_
  obtain ⟨b3, hb_3, h⟩ := bs h
  refine WQ.cutN 12 [(58, .bool b3), (2, .pointer (some ⟨b_1, 0, none⟩)), (3, .pointer (some ⟨b_2, 0, none⟩)), (5, .int .i64 s1)] ?_ (fun K => ?_)
  rotate_left
  ·refine WQ.split (d := 46) rfl (fun c5 => ?_) (fun c5 => ?_)
   ·replace hb_3 := ite_t hb_3 c5
    refine WQ.no rfl rfl rfl rfl <| WQ.no rfl rfl rfl rfl <| WQ.no rfl rfl rfl rfl <| WQ.no rfl rfl rfl rfl <| WQ.no rfl rfl rfl rfl <| WQ.no rfl rfl rfl rfl <| WQ.no rfl rfl rfl rfl <| WQ.no rfl rfl rfl rfl <| WQ.no rfl rfl rfl rfl <| WQ.no rfl rfl rfl rfl <| WQ.no rfl rfl rfl rfl <| WQ.q (q_pick1 rfl rfl) rfl rfl rfl ?_
    cases hb_3
    exact WQ.keep (by exact ⟨rfl, rfl, rfl, rfl, trivial⟩) K
   ·replace hb_3 := ite_f hb_3 c5
    refine WQ.yes rfl rfl <| qq (q_fieldAddr Fld_29_1 rfl) rfl <| WQ.yes rfl rfl <| qq (q_load1 T1_27 rfl (fun w1 hw => hw.rgO (i := 0) rfl 1 1 [pv1_0] rfl)) rfl <| WQ.yes rfl rfl <| qq (q_move rfl) rfl <| WQ.yes rfl rfl ?_
    obtain ⟨x3, hx3, hb_3⟩ := bs hb_3
    obtain ⟨cs2, F2, -, g2, hb2, hs2, r2⟩ := ph1_0.el (idx_some hx3).2.2
    obtain ⟨rfl, -⟩ := r2
    refine qq (q_indexAddr Sl_27 rfl rfl ph1_0 hx3) rfl <| WQ.yes rfl rfl <| qq (q_loadN Tn_51 rfl (fun w1 hw => (g2.of_eq 0 3 rfl rfl : rg _ _ _ [.int .i64 x3.K, .int .i64 x3.N, .string x3.S]).rangeAt hw.fro) rfl) rfl <| WQ.yes rfl rfl <| qq (q_fieldAddr Fld_37_2 rfl) rfl <| WQ.yes rfl rfl <| qq (q_load1 T1_27 rfl (fun w1 hw => hw.rgO (i := 1) rfl 2 1 [pv0_0] rfl)) rfl <| WQ.yes rfl rfl <| qq (q_move rfl) rfl <| WQ.yes rfl rfl ?_
    obtain ⟨x4, hx4, hb_3⟩ := bs hb_3
    obtain ⟨cs3, F3, -, g3, hb3, hs3, r3⟩ := ph0_0.el (idx_some hx4).2.2
    obtain ⟨rfl, -⟩ := r3
    refine qq (q_indexAddr Sl_27 rfl rfl ph0_0 hx4) rfl <| WQ.yes rfl rfl <| qq (q_loadN Tn_51 rfl (fun w1 hw => (g3.of_eq 0 3 rfl rfl : rg _ _ _ [.int .i64 x4.K, .int .i64 x4.N, .string x4.S]).rangeAt hw.fro) rfl) rfl <| WQ.yes rfl rfl <| qq (q_neA EqT_51 rfl rfl rfl (r := eqT_TVal x3 x4) rfl) rfl <| WQ.q (q_pick0 rfl rfl) rfl rfl rfl ?_
    cases hb_3
    exact WQ.keep (by exact ⟨rfl, rfl, rfl, rfl, trivial⟩) K
  refine WQ.nil ?_
  refine cdh rfl h (fun c6 h => ?_) (fun c6 h => ?_)
  ·refine sr <| la rfl <| en ?_
   refine WT.ret Try.func14 (resOk.one rfl) (fun w1 hw => ?_)
   subst hb0
   cases h
   exact post_of_St hw
  refine WT.skip <| ib <| rgn <| la rfl <| la rfl <| la rfl <| en ?_
  exact lback (ih1 (IntKind.i64.wrap (s1 + 1)) h) ⟨rfl, rfl, rfl, trivial⟩ (fun w1 hw => (hw.sel (js := []) rfl).selO (js := [0, 0]) rfl)
 refine xt rfl <| sr <| la rfl <| en ?_
 refine WT.ret Try.func14 (resOk.one rfl) (fun w1 hw => ?_)
 subst hb0
 cases h
 exact post_of_St hw
theorem m_l_FnAlphas_ok {Φ : Hp} {w : World} (hΦ : In Φ w) (N : Nat) (p0 : (List Int)) {pv0 : Value} {pG0 : List Nat} (ph0 : RSl (RI .u8) 1 Φ pG0 pv0 p0) {r : Bool} (h : m_l_FnAlphas N p0 = some r) :
  Calls Try.prog 3 [pv0].toArray w (Post (.bool r) w) := by
 refine enter Try.func3 rfl Try.ntmps3 rfl (St.start0 hΦ) ?_
 have pa0 := Old.mk hΦ ph0.kn (Dj.empty _)
 revert pa0
 generalize hb0 : (⟨w, [], Φ⟩ : Base) = w0
 intro pa0
 unfold m_l_FnAlphas at h
 refine sr <| la rfl <| en <| sq <| sr <| la rfl ?_
 obtain ⟨x1, hx1, h⟩ := bs h
 refine lp (p_call Fun_4 rfl (fun w1 hw => m_l_big_ok hw.fro N p0 ph0 hx1)) rfl <| en ?_
 refine cdh rfl h (fun c1 h => ?_) (fun c1 h => ?_)
 ·refine sr <| la rfl <| en ?_
  refine WT.ret Try.func3 (resOk.one rfl) (fun w1 hw => ?_)
  subst hb0
  cases h
  exact post_of_St hw
 refine WT.skip <| sr <| la rfl ?_
 obtain ⟨x2, hx2, h⟩ := bs h
 refine lc (k_call (js := []) (R := []) Fun_5 rfl rfl (fun w1 hw ap hl => m_s_DrawMatchPat_ok hw.fro N p0 ph0  hx2)) rfl (fun v1 Φ_1 F1 q1 => ?_)
 obtain ⟨ap1, fr1, v2, v3, v4, rfl, rfl, h1, h2, h3⟩ := q1
 replace ph0 := ph0.frame RI.lasts fr1 (ap1.o pa0)
 refine la rfl <| lq (q_extract rfl rfl) rfl <| lq (q_extract rfl rfl) rfl <| lq (q_extract rfl rfl) rfl ?_
 refine ln (nz Zr_26) rfl (fun b_1 => ?_)
 refine ln (nz Zr_29) rfl (fun b_2 => ?_)
 refine soN 1 Sz_26 rfl ⟨rfl, h1.one, rfl, trivial⟩ rfl ?_
 refine soN 0 Sz_29 rfl ⟨rfl, h2.one, trivial⟩ rfl ?_
 refine la rfl <| en <| sr <| ld3 Tn_26 1 rfl <| ld2 Tn_29 0 rfl <| la rfl ?_
 obtain ⟨x3, hx3, h⟩ := bs h
 refine lc (k_call (js := []) (R := [ob v2, ob v3, ob v4]) Fun_6 rfl rfl (fun w1 hw ap hl => m_i_MatchPat_ok hw.fro N x2.1 x2.2.1 x2.2.2 h1.rsl h2.rsl h3.rsl  hx3)) rfl (fun v5 Φ_2 F2 q2 => ?_)
 obtain ⟨ap2, fr2, v6, rfl, rfl, h4⟩ := q2
 replace ph0 := ph0.frame RI.lasts fr2 (ap2.o pa0)
 replace h1 := h1.frame RTArg.lasts fr2 (ap2.r (i := 0) rfl) (Dj.nil _)
 replace h2 := h2.frame RTVal.lasts fr2 (ap2.r (i := 1) rfl) (Dj.nil _)
 refine la rfl <| lq (q_extract rfl rfl) rfl <| lq (q_extract rfl rfl) rfl <| la rfl <| la rfl <| en <| sr <| ld3 Tn_26 1 rfl ?_
 obtain ⟨x4, hx4, h⟩ := bs h
 refine lc (k_call (js := []) (R := [ob v6, ob v2, ob v3, ob v4]) Fun_7 rfl rfl (fun w1 hw ap hl => m_i_AlphaOf_ok hw.fro N x2.1 h1.rsl  hx4)) rfl (fun v7 Φ_3 F3 q3 => ?_)
 obtain ⟨ap3, fr3, v8, v9, rfl, rfl, h5, h6⟩ := q3
 replace ph0 := ph0.frame RI.lasts fr3 (ap3.o pa0)
 replace h1 := h1.frame RTArg.lasts fr3 (ap3.r (i := 1) rfl) (Dj.nil _)
 replace h2 := h2.frame RTVal.lasts fr3 (ap3.r (i := 2) rfl) (Dj.nil _)
 refine ln (nz Zr_37) rfl (fun b_3 => ?_)
 refine soN 0 Sz_37 rfl ⟨rfl, rfl, h5.one, h6.one, trivial⟩ rfl ?_
 refine en <| sr <| la rfl ?_
 obtain ⟨x5, hx5, h⟩ := bs h
 refine lc (k_call (js := []) (R := [ob v8, ob v9, ob v6, ob v2, ob v3, ob v4]) Fun_8 rfl rfl (fun w1 hw ap hl => m_s_DrawSameAlpha_ok hw.fro N p0 ph0  hx5)) rfl (fun v10 Φ_4 F4 q4 => ?_)
 obtain ⟨ap4, fr4, v11, G1, v12, G2, v13, G3, v14, G4, X1, rfl, rfl, h7, i1, h8, i2, h9, i3, h10, i4⟩ := q4
 replace ph0 := ph0.frame RI.lasts fr4 (ap4.o pa0)
 replace h1 := h1.frame RTArg.lasts fr4 (ap4.r (i := 3) rfl) (Dj.nil _)
 replace h2 := h2.frame RTVal.lasts fr4 (ap4.r (i := 4) rfl) (Dj.nil _)
 replace h5 := h5.frame RTVal.lasts fr4 (ap4.r (i := 0) rfl) (Dj.nil _)
 replace h6 := h6.frame RI.lasts fr4 (ap4.r (i := 1) rfl) (Dj.nil _)
 refine la rfl <| lq (q_extract rfl rfl) rfl <| lq (q_extract rfl rfl) rfl ?_
 refine ln (nz Zr_37) rfl (fun b_4 => ?_)
 refine ln (nz Zr_37) rfl (fun b_5 => ?_)
 refine soN 1 Sz_37 rfl ⟨rfl, rfl, h7.one, h8.one, trivial⟩ rfl ?_
 refine soN 0 Sz_37 rfl ⟨rfl, rfl, h9.one, h10.one, trivial⟩ rfl ?_
 refine en <| sr <| la rfl ?_
 obtain ⟨x7, hx6, h⟩ := bs h
 refine lc (k_call (js := []) (R := [X1, ob v8, ob v9, ob v6, ob v2, ob v3, ob v4]) Fun_9 rfl rfl (fun w1 hw ap hl => m_s_DrawPasses_ok hw.fro N p0 ph0  hx6)) rfl (fun v15 Φ_5 F5 q5 => ?_)
 obtain ⟨ap5, fr5, v16, v17, v18, rfl, rfl, h11, h12, h13⟩ := q5
 replace h7 := h7.frame RTVal.lasts fr5 (Dj.sub (ap5.r (i := 0) rfl) i1)
 replace h8 := h8.frame RI.lasts fr5 (Dj.sub (ap5.r (i := 0) rfl) i2)
 replace h9 := h9.frame RTVal.lasts fr5 (Dj.sub (ap5.r (i := 0) rfl) i3)
 replace h10 := h10.frame RI.lasts fr5 (Dj.sub (ap5.r (i := 0) rfl) i4)
 replace h1 := h1.frame RTArg.lasts fr5 (ap5.r (i := 4) rfl) (Dj.nil _)
 replace h2 := h2.frame RTVal.lasts fr5 (ap5.r (i := 5) rfl) (Dj.nil _)
 replace h5 := h5.frame RTVal.lasts fr5 (ap5.r (i := 1) rfl) (Dj.nil _)
 replace h6 := h6.frame RI.lasts fr5 (ap5.r (i := 2) rfl) (Dj.nil _)
 refine la rfl <| lq (q_extract rfl rfl) rfl <| lq (q_extract rfl rfl) rfl ?_
 refine ln (nz Zr_37) rfl (fun b_6 => ?_)
 refine ln (nz Zr_29) rfl (fun b_7 => ?_)
 refine soN 1 Sz_37 rfl ⟨rfl, rfl, h11.one, h12.one, trivial⟩ rfl ?_
 refine soN 0 Sz_29 rfl ⟨rfl, h13.one, trivial⟩ rfl ?_
 refine en <| sq <| sq ?_
 refine cut (σ := Hp × Bool) (fun s => [(4, .pointer (some ⟨b_2, 0, none⟩)), (7, .bool x3.2), (8, .pointer (some ⟨b_3, 0, none⟩)), (62, .bool s.2)]) (fun s => St w0 s.1 [(b_3, .cells #[.string x4.Kind, .int .i64 x4.N, v8, v9] 37 (0, 0)), (b_2, .cells #[.string x2.2.1.Kind, v3] 29 (0, 0))] [ob v8, ob v9, ob v3]) (fun s => m_l_FnAlphas_j1 N x2 x3 x4 s.2 = some r ∧ (OSl RTVal 51 3 s.1 [] v3 x2.2.1.Fields) ∧ (OSl RTVal 51 3 s.1 [] v8 x4.Consts) ∧ (OSl (RI .i64) 3 1 s.1 [] v9 x4.At)) (fun s hm => ?_) (fun K => ?_)
 ·clear h
  obtain ⟨Φ_7, s1⟩ := s
  obtain ⟨h, h2, h5, h6⟩ := hm
  dsimp only at h h2 h5 h6 ⊢
  unfold m_l_FnAlphas_j1 at h
  refine cdh rfl h (fun c3 h => ?_) (fun c3 h => ?_)
  ·refine sr <| la rfl <| en ?_
   refine WT.ret Try.func3 (resOk.one rfl) (fun w1 hw => ?_)
   subst hb0
   cases h
   exact post_of_St hw
  refine WT.skip <| sr <| la rfl <| la rfl <| la rfl ?_
  obtain ⟨b1, hb_1, h⟩ := bs h
  refine WL.cutN 4 [(69, .bool b1)] ?_ (fun K => ?_)
  rotate_left
  ·refine spl 65 rfl hb_1 (fun c4 hb_1 => ?_) (fun c4 hb_1 => ?_)
   ·refine la rfl <| la rfl <| la rfl <| la rfl ?_
    cases hb_1
    exact kk K ⟨rfl, trivial⟩
   ·refine ly rfl rfl <| ld4 Tn_37 0 rfl <| ly rfl rfl <| ld2 Tn_29 1 rfl <| ly rfl rfl ?_
    obtain ⟨x10, hx9, hb_1⟩ := bs hb_1
    refine lp (p_call Fun_13 rfl (fun w1 hw => m_i_Passes_ok hw.fro N x4 x2.2.1 h5.rsl h6.rsl h2.rsl hx9)) rfl <| la rfl ?_
    cases hb_1
    exact kk K ⟨rfl, trivial⟩
  refine la rfl <| en ?_
  refine WT.ret Try.func3 (resOk.one rfl) (fun w1 hw => ?_)
  subst hb0
  cases h
  exact post_of_St hw
 refine WT.mix (Kn Φ_5 [] [(b_7, .cells #[.string x7.2.Kind, v18] 29 (0, 0)), (b_6, .cells #[.string x7.1.Kind, .int .i64 x7.1.N, v16, v17] 37 (0, 0)), (b_5, .cells #[.string x5.2.Kind, .int .i64 x5.2.N, v13, v14] 37 (0, 0)), (b_4, .cells #[.string x5.1.Kind, .int .i64 x5.1.N, v11, v12] 37 (0, 0)), (b_3, .cells #[.string x4.Kind, .int .i64 x4.N, v8, v9] 37 (0, 0)), (b_2, .cells #[.string x2.2.1.Kind, v3] 29 (0, 0)), (b_1, .cells #[.string x2.1.Kind, v2, .bool x2.1.Not] 26 (0, 0))]) (fun _ => true) mixed (fun _ h => h.drew) ?_
 refine mq 0 rfl (by kernel_rfl) (kn Kf.nil (AllIn.mem ⟨gM 0 rfl, gM 1 rfl, gM 2 rfl, gM 3 rfl, gM 4 rfl, gM 5 rfl, gM 6 rfl, trivial⟩)) (q_loadN Tn_37 rfl (fun w1 hw => hw.rgO (i := 4) rfl 0 4 [.string x4.Kind, .int .i64 x4.N, v8, v9] rfl) rfl) rfl ?_
 refine mq 1 rfl (by kernel_rfl) (kn Kf.nil (AllIn.mem ⟨gM 0 rfl, gM 1 rfl, gM 2 rfl, gM 3 rfl, gM 4 rfl, gM 5 rfl, gM 6 rfl, trivial⟩)) (q_loadN Tn_26 rfl (fun w1 hw => hw.rgO (i := 6) rfl 0 3 [.string x2.1.Kind, v2, .bool x2.1.Not] rfl) rfl) rfl ?_
 obtain ⟨x11, hx10, h⟩ := bs h
 refine WM.one 2 (by kernel_rfl) (mc rfl (fun _ v Φx D w1 hq hw => Kn.of Kf.nil (AllIn.mem ⟨gM 0 rfl, gM 1 rfl, gM 2 rfl, gM 3 rfl, gM 4 rfl, gM 5 rfl, gM 6 rfl, trivial⟩) hw) (k_call (js := []) (R := [ob v16, ob v17, ob v18, X1, ob v8, ob v9, ob v6, ob v2, ob v3, ob v4]) Fun_11 rfl rfl (fun w1 hw ap hl => m_s_AlphaOf_ok hw.fro N x2.1 h1.rsl  hx10)) rfl (fun v22 Φ_8 F7 q7 => ?_))
 obtain ⟨ap7, fr7, v23, v24, rfl, rfl, h16, h17⟩ := q7
 replace h7 := h7.frame RTVal.lasts fr7 (Dj.sub (ap7.r (i := 3) rfl) i1)
 replace h8 := h8.frame RI.lasts fr7 (Dj.sub (ap7.r (i := 3) rfl) i2)
 replace h9 := h9.frame RTVal.lasts fr7 (Dj.sub (ap7.r (i := 3) rfl) i3)
 replace h10 := h10.frame RI.lasts fr7 (Dj.sub (ap7.r (i := 3) rfl) i4)
 replace h2 := h2.frame RTVal.lasts fr7 (ap7.r (i := 8) rfl) (Dj.nil _)
 replace h5 := h5.frame RTVal.lasts fr7 (ap7.r (i := 4) rfl) (Dj.nil _)
 replace h6 := h6.frame RI.lasts fr7 (ap7.r (i := 5) rfl) (Dj.nil _)
 replace h11 := h11.frame RTVal.lasts fr7 (ap7.r (i := 0) rfl) (Dj.nil _)
 replace h12 := h12.frame RI.lasts fr7 (ap7.r (i := 1) rfl) (Dj.nil _)
 replace h13 := h13.frame RTVal.lasts fr7 (ap7.r (i := 2) rfl) (Dj.nil _)
 obtain ⟨x12, hx11, h⟩ := bs h
 refine WM.one 3 (by kernel_rfl) (mp rfl (fun _ w1 hw => Kn.of Kf.nil (AllIn.mem ⟨gM 0 rfl, gM 1 rfl, gM 2 rfl, gM 3 rfl, gM 4 rfl, gM 5 rfl, gM 6 rfl, trivial⟩) hw) (p_call Fun_10 rfl (fun w1 hw => m_i_SameAlpha_ok hw.fro N x4 x11 h5.rsl h6.rsl h16.rsl h17.rsl hx11)) rfl ?_)
 refine ma 4 rfl (by kernel_rfl) (kn Kf.nil (AllIn.mem ⟨gM 0 rfl, gM 1 rfl, gM 2 rfl, gM 3 rfl, gM 4 rfl, gM 5 rfl, gM 6 rfl, trivial⟩)) rfl <| ma 5 rfl (by kernel_rfl) (kn Kf.nil (AllIn.mem ⟨gM 0 rfl, gM 1 rfl, gM 2 rfl, gM 3 rfl, gM 4 rfl, gM 5 rfl, gM 6 rfl, trivial⟩)) rfl ?_
 refine WM.split (d := 45) rfl (fun c5 => ?_) (fun c5 => ?_)
 ·replace h := ite_t h c5
  refine mno 6 [8, 11, 12, 13, 14, 15, 16, 17, 18, 19, 20, 21, 22] rfl (by kernel_rfl) (kn Kf.nil (AllIn.mem ⟨gM 0 rfl, gM 1 rfl, gM 2 rfl, gM 3 rfl, gM 4 rfl, gM 5 rfl, gM 6 rfl, trivial⟩)) rfl (.inl rfl) rfl rfl <| mno 7 [8, 11, 12, 13, 14, 15, 16, 17, 18, 19, 20, 21, 22] rfl (by kernel_rfl) (kn Kf.nil (AllIn.mem ⟨gM 0 rfl, gM 1 rfl, gM 2 rfl, gM 3 rfl, gM 4 rfl, gM 5 rfl, gM 6 rfl, trivial⟩)) rfl (.inl rfl) rfl rfl ?_
  refine mno 8 [11, 12, 13, 14, 15, 16, 17, 18, 19, 20, 21, 22] rfl (by kernel_rfl) (kn Kf.nil (AllIn.mem ⟨gM 0 rfl, gM 1 rfl, gM 2 rfl, gM 3 rfl, gM 4 rfl, gM 5 rfl, gM 6 rfl, trivial⟩)) rfl (.inl rfl) rfl rfl <| mno 9 [11, 12, 13, 14, 15, 16, 17, 18, 19, 20, 21, 22] rfl (by kernel_rfl) (kn Kf.nil (AllIn.mem ⟨gM 0 rfl, gM 1 rfl, gM 2 rfl, gM 3 rfl, gM 4 rfl, gM 5 rfl, gM 6 rfl, trivial⟩)) rfl (.inl rfl) rfl rfl ?_
  refine mno 10 [11, 12, 13, 14, 15, 16, 17, 18, 19, 20, 21, 22] rfl (by kernel_rfl) (kn Kf.nil (AllIn.mem ⟨gM 0 rfl, gM 1 rfl, gM 2 rfl, gM 3 rfl, gM 4 rfl, gM 5 rfl, gM 6 rfl, trivial⟩)) rfl (.inl rfl) rfl rfl <| mno 11 [12, 13, 14, 15, 16, 17, 18, 19, 20, 21, 22] rfl (by kernel_rfl) (kn Kf.nil (AllIn.mem ⟨gM 0 rfl, gM 1 rfl, gM 2 rfl, gM 3 rfl, gM 4 rfl, gM 5 rfl, gM 6 rfl, trivial⟩)) rfl (.inl rfl) rfl rfl ?_
  refine mno 12 [13, 14, 15, 16, 17, 18, 19, 20, 21, 22] rfl (by kernel_rfl) (kn Kf.nil (AllIn.mem ⟨gM 0 rfl, gM 1 rfl, gM 2 rfl, gM 3 rfl, gM 4 rfl, gM 5 rfl, gM 6 rfl, trivial⟩)) rfl (.inl rfl) rfl rfl <| ma 13 rfl (by kernel_rfl) (kn Kf.nil (AllIn.mem ⟨gM 0 rfl, gM 1 rfl, gM 2 rfl, gM 3 rfl, gM 4 rfl, gM 5 rfl, gM 6 rfl, trivial⟩)) rfl ?_
  refine ma 14 rfl (by kernel_rfl) (kn Kf.nil (AllIn.mem ⟨gM 0 rfl, gM 1 rfl, gM 2 rfl, gM 3 rfl, gM 4 rfl, gM 5 rfl, gM 6 rfl, trivial⟩)) rfl <| mno 15 [17, 20, 21, 22] rfl (by kernel_rfl) (kn Kf.nil (AllIn.mem ⟨gM 0 rfl, gM 1 rfl, gM 2 rfl, gM 3 rfl, gM 4 rfl, gM 5 rfl, gM 6 rfl, trivial⟩)) rfl (.inl rfl) rfl rfl ?_
  refine mno 16 [17, 20, 21, 22] rfl (by kernel_rfl) (kn Kf.nil (AllIn.mem ⟨gM 0 rfl, gM 1 rfl, gM 2 rfl, gM 3 rfl, gM 4 rfl, gM 5 rfl, gM 6 rfl, trivial⟩)) rfl (.inl rfl) rfl rfl <| mno 17 [20, 21, 22] rfl (by kernel_rfl) (kn Kf.nil (AllIn.mem ⟨gM 0 rfl, gM 1 rfl, gM 2 rfl, gM 3 rfl, gM 4 rfl, gM 5 rfl, gM 6 rfl, trivial⟩)) rfl (.inl rfl) rfl rfl ?_
  refine mno 18 [20, 21, 22] rfl (by kernel_rfl) (kn Kf.nil (AllIn.mem ⟨gM 0 rfl, gM 1 rfl, gM 2 rfl, gM 3 rfl, gM 4 rfl, gM 5 rfl, gM 6 rfl, trivial⟩)) rfl (.inl rfl) rfl rfl <| mno 19 [20, 21, 22] rfl (by kernel_rfl) (kn Kf.nil (AllIn.mem ⟨gM 0 rfl, gM 1 rfl, gM 2 rfl, gM 3 rfl, gM 4 rfl, gM 5 rfl, gM 6 rfl, trivial⟩)) rfl (.inl rfl) rfl rfl ?_
  refine mno 20 [21, 22] rfl (by kernel_rfl) (kn Kf.nil (AllIn.mem ⟨gM 0 rfl, gM 1 rfl, gM 2 rfl, gM 3 rfl, gM 4 rfl, gM 5 rfl, gM 6 rfl, trivial⟩)) rfl (.inl rfl) rfl rfl <| mno 21 [22] rfl (by kernel_rfl) (kn Kf.nil (AllIn.mem ⟨gM 0 rfl, gM 1 rfl, gM 2 rfl, gM 3 rfl, gM 4 rfl, gM 5 rfl, gM 6 rfl, trivial⟩)) rfl (.inl rfl) rfl rfl ?_
  refine ma 22 rfl (by kernel_rfl) (kn Kf.nil (AllIn.mem ⟨gM 0 rfl, gM 1 rfl, gM 2 rfl, gM 3 rfl, gM 4 rfl, gM 5 rfl, gM 6 rfl, trivial⟩)) rfl <| WM.nil (by kernel_rfl) ?_
  exact wto (K (Φ_8, true) ⟨h, h2, h5, h6⟩) ⟨rfl, rfl, rfl, rfl, trivial⟩ (fun w1 hw => (hw.sel (js := [6, 6, 8]) rfl).selO (js := [4, 4]) rfl)
 replace h := ite_f h c5
 refine mqG 6 [8, 11, 12, 13, 14, 15, 16, 17, 18, 19, 20, 21, 22] rfl (by kernel_rfl) (kn Kf.nil (AllIn.mem ⟨gM 0 rfl, gM 1 rfl, gM 2 rfl, gM 3 rfl, gM 4 rfl, gM 5 rfl, gM 6 rfl, trivial⟩)) (q_loadN Tn_37 rfl (fun w1 hw => hw.rgO (i := 3) rfl 0 4 [.string x5.1.Kind, .int .i64 x5.1.N, v11, v12] rfl) rfl) rfl ?_
 refine mqG 7 [8, 11, 12, 13, 14, 15, 16, 17, 18, 19, 20, 21, 22] rfl (by kernel_rfl) (kn Kf.nil (AllIn.mem ⟨gM 0 rfl, gM 1 rfl, gM 2 rfl, gM 3 rfl, gM 4 rfl, gM 5 rfl, gM 6 rfl, trivial⟩)) (q_loadN Tn_37 rfl (fun w1 hw => hw.rgO (i := 2) rfl 0 4 [.string x5.2.Kind, .int .i64 x5.2.N, v13, v14] rfl) rfl) rfl ?_
 refine mqG 9 [11, 12, 13, 14, 15, 16, 17, 18, 19, 20, 21, 22] rfl (by kernel_rfl) (kn Kf.nil (AllIn.mem ⟨gM 0 rfl, gM 1 rfl, gM 2 rfl, gM 3 rfl, gM 4 rfl, gM 5 rfl, gM 6 rfl, trivial⟩)) (q_loadN Tn_37 rfl (fun w1 hw => hw.rgO (i := 3) rfl 0 4 [.string x5.1.Kind, .int .i64 x5.1.N, v11, v12] rfl) rfl) rfl ?_
 refine mqG 10 [11, 12, 13, 14, 15, 16, 17, 18, 19, 20, 21, 22] rfl (by kernel_rfl) (kn Kf.nil (AllIn.mem ⟨gM 0 rfl, gM 1 rfl, gM 2 rfl, gM 3 rfl, gM 4 rfl, gM 5 rfl, gM 6 rfl, trivial⟩)) (q_loadN Tn_37 rfl (fun w1 hw => hw.rgO (i := 2) rfl 0 4 [.string x5.2.Kind, .int .i64 x5.2.N, v13, v14] rfl) rfl) rfl ?_
 obtain ⟨x13, hx12, h⟩ := bs h
 refine WM.one 8 (by kernel_rfl) (mpG rfl (fun _ w1 hw => Kn.of Kf.nil (AllIn.mem ⟨gM 0 rfl, gM 1 rfl, gM 2 rfl, gM 3 rfl, gM 4 rfl, gM 5 rfl, gM 6 rfl, trivial⟩) hw) (p_call Fun_10 rfl (fun w1 hw => m_i_SameAlpha_ok hw.fro N x5.1 x5.2 h7 h8 h9 h10 hx12)) rfl ?_)
 obtain ⟨x14, hx13, h⟩ := bs h
 refine WM.one 11 (by kernel_rfl) (mpG rfl (fun _ w1 hw => Kn.of Kf.nil (AllIn.mem ⟨gM 0 rfl, gM 1 rfl, gM 2 rfl, gM 3 rfl, gM 4 rfl, gM 5 rfl, gM 6 rfl, trivial⟩) hw) (p_call Fun_12 rfl (fun w1 hw => m_s_SameAlpha_ok hw.fro N x5.1 x5.2 h7 h8 h9 h10 hx13)) rfl ?_)
 refine mqG 12 [13, 14, 15, 16, 17, 18, 19, 20, 21, 22] rfl (by kernel_rfl) (kn Kf.nil (AllIn.mem ⟨gM 0 rfl, gM 1 rfl, gM 2 rfl, gM 3 rfl, gM 4 rfl, gM 5 rfl, gM 6 rfl, trivial⟩)) (q_bne Bo_4 rfl rfl) rfl <| ma 13 rfl (by kernel_rfl) (kn Kf.nil (AllIn.mem ⟨gM 0 rfl, gM 1 rfl, gM 2 rfl, gM 3 rfl, gM 4 rfl, gM 5 rfl, gM 6 rfl, trivial⟩)) rfl ?_
 refine ma 14 rfl (by kernel_rfl) (kn Kf.nil (AllIn.mem ⟨gM 0 rfl, gM 1 rfl, gM 2 rfl, gM 3 rfl, gM 4 rfl, gM 5 rfl, gM 6 rfl, trivial⟩)) rfl ?_
 refine WM.split (d := 54) rfl (fun c6 => ?_) (fun c6 => ?_)
 ·replace h := ite_t h c6
  refine mno 15 [17, 20, 21, 22] rfl (by kernel_rfl) (kn Kf.nil (AllIn.mem ⟨gM 0 rfl, gM 1 rfl, gM 2 rfl, gM 3 rfl, gM 4 rfl, gM 5 rfl, gM 6 rfl, trivial⟩)) rfl (.inl rfl) rfl rfl <| mno 16 [17, 20, 21, 22] rfl (by kernel_rfl) (kn Kf.nil (AllIn.mem ⟨gM 0 rfl, gM 1 rfl, gM 2 rfl, gM 3 rfl, gM 4 rfl, gM 5 rfl, gM 6 rfl, trivial⟩)) rfl (.inl rfl) rfl rfl ?_
  refine mno 17 [20, 21, 22] rfl (by kernel_rfl) (kn Kf.nil (AllIn.mem ⟨gM 0 rfl, gM 1 rfl, gM 2 rfl, gM 3 rfl, gM 4 rfl, gM 5 rfl, gM 6 rfl, trivial⟩)) rfl (.inl rfl) rfl rfl <| mno 18 [20, 21, 22] rfl (by kernel_rfl) (kn Kf.nil (AllIn.mem ⟨gM 0 rfl, gM 1 rfl, gM 2 rfl, gM 3 rfl, gM 4 rfl, gM 5 rfl, gM 6 rfl, trivial⟩)) rfl (.inl rfl) rfl rfl ?_
  refine mno 19 [20, 21, 22] rfl (by kernel_rfl) (kn Kf.nil (AllIn.mem ⟨gM 0 rfl, gM 1 rfl, gM 2 rfl, gM 3 rfl, gM 4 rfl, gM 5 rfl, gM 6 rfl, trivial⟩)) rfl (.inl rfl) rfl rfl <| mno 20 [21, 22] rfl (by kernel_rfl) (kn Kf.nil (AllIn.mem ⟨gM 0 rfl, gM 1 rfl, gM 2 rfl, gM 3 rfl, gM 4 rfl, gM 5 rfl, gM 6 rfl, trivial⟩)) rfl (.inl rfl) rfl rfl ?_
  refine mno 21 [22] rfl (by kernel_rfl) (kn Kf.nil (AllIn.mem ⟨gM 0 rfl, gM 1 rfl, gM 2 rfl, gM 3 rfl, gM 4 rfl, gM 5 rfl, gM 6 rfl, trivial⟩)) rfl (.inl rfl) rfl rfl <| ma 22 rfl (by kernel_rfl) (kn Kf.nil (AllIn.mem ⟨gM 0 rfl, gM 1 rfl, gM 2 rfl, gM 3 rfl, gM 4 rfl, gM 5 rfl, gM 6 rfl, trivial⟩)) rfl ?_
  refine WM.nil (by kernel_rfl) ?_
  exact wto (K (Φ_8, true) ⟨h, h2, h5, h6⟩) ⟨rfl, rfl, rfl, rfl, trivial⟩ (fun w1 hw => (hw.sel (js := [6, 6, 8]) rfl).selO (js := [4, 4]) rfl)
 replace h := ite_f h c6
 refine mqG 15 [17, 20, 21, 22] rfl (by kernel_rfl) (kn Kf.nil (AllIn.mem ⟨gM 0 rfl, gM 1 rfl, gM 2 rfl, gM 3 rfl, gM 4 rfl, gM 5 rfl, gM 6 rfl, trivial⟩)) (q_loadN Tn_37 rfl (fun w1 hw => hw.rgO (i := 1) rfl 0 4 [.string x7.1.Kind, .int .i64 x7.1.N, v16, v17] rfl) rfl) rfl ?_
 refine mqG 16 [17, 20, 21, 22] rfl (by kernel_rfl) (kn Kf.nil (AllIn.mem ⟨gM 0 rfl, gM 1 rfl, gM 2 rfl, gM 3 rfl, gM 4 rfl, gM 5 rfl, gM 6 rfl, trivial⟩)) (q_loadN Tn_29 rfl (fun w1 hw => hw.rgO (i := 0) rfl 0 2 [.string x7.2.Kind, v18] rfl) rfl) rfl ?_
 refine mqG 18 [20, 21, 22] rfl (by kernel_rfl) (kn Kf.nil (AllIn.mem ⟨gM 0 rfl, gM 1 rfl, gM 2 rfl, gM 3 rfl, gM 4 rfl, gM 5 rfl, gM 6 rfl, trivial⟩)) (q_loadN Tn_37 rfl (fun w1 hw => hw.rgO (i := 1) rfl 0 4 [.string x7.1.Kind, .int .i64 x7.1.N, v16, v17] rfl) rfl) rfl ?_
 refine mqG 19 [20, 21, 22] rfl (by kernel_rfl) (kn Kf.nil (AllIn.mem ⟨gM 0 rfl, gM 1 rfl, gM 2 rfl, gM 3 rfl, gM 4 rfl, gM 5 rfl, gM 6 rfl, trivial⟩)) (q_loadN Tn_29 rfl (fun w1 hw => hw.rgO (i := 0) rfl 0 2 [.string x7.2.Kind, v18] rfl) rfl) rfl ?_
 obtain ⟨x15, hx14, h⟩ := bs h
 refine WM.one 17 (by kernel_rfl) (mpG rfl (fun _ w1 hw => Kn.of Kf.nil (AllIn.mem ⟨gM 0 rfl, gM 1 rfl, gM 2 rfl, gM 3 rfl, gM 4 rfl, gM 5 rfl, gM 6 rfl, trivial⟩) hw) (p_call Fun_13 rfl (fun w1 hw => m_i_Passes_ok hw.fro N x7.1 x7.2 h11.rsl h12.rsl h13.rsl hx14)) rfl ?_)
 obtain ⟨x16, hx15, h⟩ := bs h
 refine WM.one 20 (by kernel_rfl) (mpG rfl (fun _ w1 hw => Kn.of Kf.nil (AllIn.mem ⟨gM 0 rfl, gM 1 rfl, gM 2 rfl, gM 3 rfl, gM 4 rfl, gM 5 rfl, gM 6 rfl, trivial⟩) hw) (p_call Fun_14 rfl (fun w1 hw => m_s_Passes_ok hw.fro N x7.1 x7.2 h11.rsl h12.rsl h13.rsl hx15)) rfl ?_)
 refine mqG 21 [22] rfl (by kernel_rfl) (kn Kf.nil (AllIn.mem ⟨gM 0 rfl, gM 1 rfl, gM 2 rfl, gM 3 rfl, gM 4 rfl, gM 5 rfl, gM 6 rfl, trivial⟩)) (q_bne Bo_4 rfl rfl) rfl <| ma 22 rfl (by kernel_rfl) (kn Kf.nil (AllIn.mem ⟨gM 0 rfl, gM 1 rfl, gM 2 rfl, gM 3 rfl, gM 4 rfl, gM 5 rfl, gM 6 rfl, trivial⟩)) rfl ?_
 refine WM.nil (by kernel_rfl) ?_
 exact wto (K (Φ_8, (x15 != x16)) ⟨h, h2, h5, h6⟩) ⟨rfl, rfl, rfl, rfl, trivial⟩ (fun w1 hw => (hw.sel (js := [6, 6, 8]) rfl).selO (js := [4, 4]) rfl)
end Go.Proofs.Ytelchcokfcdndaa
