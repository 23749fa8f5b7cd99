/- Printed by a program of ours: each Go function computes its Lean function. -/
import Derived.Test.YtmhckcoabhahpaaProg
import Derived.Test.YtmhckcoabhahpaaWBlockedWalk2
namespace Go.Proofs.Ytmhckcoabhahpaa
open Eng
open Go.RowKit (Below)
set_option linter.unusedVariables false
set_option linter.unusedSimpArgs false

set_option maxRecDepth 100000
set_option maxHeartbeats 1000000
theorem m_s_MatchPat_ok {Φ : Hp} {w : World} (hΦ : In Φ w) (N : Nat) (p0 : TPat) (p1 : TFact) (p2 : (List TBind)) {pv0_0 : Value} {pG0_0 : List Nat} {pv1_0 : Value} {pG1_0 : List Nat} {pv2 : Value} {pG2 : List Nat} (ph0_0 : RSl RTArg 5 Φ pG0_0 pv0_0 p0.Args) (ph1_0 : RSl RTVal 3 Φ pG1_0 pv1_0 p1.Fields) (ph2 : RSl RTBind 4 Φ pG2 pv2 p2) {r : (List TBind) × Bool} (h : m_s_MatchPat N p0 p1 p2 = some r) :
  Calls Try.prog 133 [.agg [.string p0.Kind, pv0_0, .bool p0.Not].toArray, .agg [.string p1.Kind, pv1_0].toArray, pv2].toArray w (PostG Φ w [] (fun Φ' Fs v => ∃ (sr_0_0 : Value), v = .tuple #[sr_0_0, .bool r.2] ∧ Fs = [ob sr_0_0] ∧ OSl RTBind 142 4 Φ' [] sr_0_0 r.1)) := by
 refine enter Try.func133 rfl Try.ntmps133 rfl (St.start0 hΦ) ?_
 have pa0_0 : Old ⟨w, [], Φ⟩ pG0_0 := Old.mk hΦ ph0_0.kn (Dj.empty _)
 have pa1_0 : Old ⟨w, [], Φ⟩ pG1_0 := Old.mk hΦ ph1_0.kn (Dj.empty _)
 have pa2 : Old ⟨w, [], Φ⟩ pG2 := Old.mk hΦ ph2.kn (Dj.empty _)
 revert pa0_0 pa1_0 pa2
 generalize hb0 : (⟨w, [], Φ⟩ : Base) = w0
 intro pa0_0 pa1_0 pa2
 unfold m_s_MatchPat at h
 refine WT.seq <| WT.region ?_
 refine ln (n_box (C := #[.string p0.Kind, pv0_0, .bool p0.Not]) rfl rfl) rfl (fun b_1 => ?_)
 refine ln (n_box (C := #[.string p1.Kind, pv1_0]) rfl rfl) rfl (fun b_2 => ?_)
 refine lq (q_assign rfl) rfl <| lq (q_assign rfl) rfl <| WL.nil <| WT.seq <| WT.region ?_
 have rc1 : RC RTBind 4 Φ ([] : List (List Nat)) [] ([] : List TBind) := RC.nil _ _ _
 refine le' (e_lit (vs := []) (C := #[]) RTBind.lasts Sl_28 Zr_142 rfl rfl rfl rfl (fill_made MC_142_0 (fill_nil)) rfl rc1 rfl (by simpa using Kw.nil)) rfl (fun v1 Φ_1 D1 q1 => ?_)
 obtain ⟨fr1, h1⟩ := q1
 replace h1 : OSl RTBind 142 4 Φ_1 [] v1 ([] : List TBind) := by simpa using h1
 replace ph2 := ph2.frame RTBind.lasts fr1 (Dj.empty _)
 replace ph0_0 := ph0_0.frame RTArg.lasts fr1 (Dj.empty _)
 replace ph1_0 := ph1_0.frame RTVal.lasts fr1 (Dj.empty _)
 refine lq (q_move rfl) rfl ?_
 obtain ⟨x1, hx1, h⟩ := bind_some h
 refine le' (e_appF RTBind.lasts RTBind.one RTBind.flat Sl_28 Ei_142 rfl rfl rfl rfl rfl (js := [0]) (Rr := []) rfl h1 ph2 hx1) rfl (fun v2 Φ_2 D2 q2 => ?_)
 obtain ⟨⟨ap1, fr2⟩, h2⟩ := q2
 replace ph2 := ph2.frame RTBind.lasts fr2 (ap1.o pa2)
 replace ph0_0 := ph0_0.frame RTArg.lasts fr2 (ap1.o pa0_0)
 replace ph1_0 := ph1_0.frame RTVal.lasts fr2 (ap1.o pa1_0)
 refine lq (q_assign rfl) rfl <| WL.nil <| WT.seq <| WT.seq <| WT.region <| lq (q_fieldAddr Fld_37_0 rfl) rfl <| lq (q_load1 T1_9 rfl (fun w1 hw => hw.rgO (i := 1) rfl 0 1 [.string p0.Kind] rfl)) rfl <| lq (q_fieldAddr Fld_40_0 rfl) rfl <| lq (q_load1 T1_9 rfl (fun w1 hw => hw.rgO (i := 0) rfl 0 1 [.string p1.Kind] rfl)) rfl <| lq (q_sne rfl rfl) rfl <| lq (q_move rfl) rfl ?_
 obtain ⟨b1, hb_1, h⟩ := bind_some h
 refine WL.cutN 8 [(29, .bool b1), (2, pv2), (3, .pointer (some ⟨b_1, 0, none⟩)), (4, .pointer (some ⟨b_2, 0, none⟩)), (8, v2)] ?_ (fun K => ?_)
 rotate_left
 ·refine WL.split (d := 21) rfl (fun c1 => ?_) (fun c1 => ?_)
  ·replace hb_1 := ite_t hb_1 c1
   refine WL.no rfl rfl rfl rfl <| WL.no rfl rfl rfl rfl <| WL.no rfl rfl rfl rfl <| WL.no rfl rfl rfl rfl <| WL.no rfl rfl rfl rfl <| WL.no rfl rfl rfl rfl <| WL.no rfl rfl rfl rfl <| WL.q (q_pick1 rfl rfl) rfl rfl rfl ?_
   cases hb_1
   exact WL.keep (by exact ⟨rfl, rfl, rfl, rfl, rfl, trivial⟩) K
  ·replace hb_1 := ite_f hb_1 c1
   refine WL.yes rfl rfl <| lq (q_fieldAddr Fld_37_1 rfl) rfl <| WL.yes rfl rfl <| lq (q_load1 T1_35 rfl (fun w1 hw => hw.rgO (i := 1) rfl 1 1 [pv0_0] rfl)) rfl <| WL.yes rfl rfl <| lq (q_lenR Sl_35 rfl rfl ph0_0) rfl <| WL.yes rfl rfl <| lq (q_fieldAddr Fld_40_1 rfl) rfl <| WL.yes rfl rfl <| lq (q_load1 T1_38 rfl (fun w1 hw => hw.rgO (i := 0) rfl 1 1 [pv1_0] rfl)) rfl <| WL.yes rfl rfl <| lq (q_lenR Sl_38 rfl rfl ph1_0) rfl <| WL.yes rfl rfl <| lq (q_neq rfl rfl) rfl ?_
   refine WL.q (q_pick0 rfl rfl) rfl rfl rfl ?_
   cases hb_1
   exact WL.keep (by exact ⟨rfl, rfl, rfl, rfl, rfl, trivial⟩) K
 refine WL.nil ?_
 refine WT.cond rfl (fun c2 => ?_) (fun c2 => ?_)
 ·replace h := ite_t h c2
  refine WT.seq <| WT.region <| lq (q_move rfl) rfl <| lq (q_assign rfl) rfl <| lq (q_assign rfl) rfl <| WL.nil ?_
  refine WT.ret Try.func133 (resOk.two rfl rfl) (fun w1 hw => ?_)
  subst hb0
  cases h
  refine postG_of_St (js := [0]) hw rfl ⟨v2, rfl, rfl, h2⟩
 replace h := ite_f h c2
 refine WT.skip <| WT.seq <| WT.seq <| WT.region <| lq (q_assign rfl) rfl <| WL.nil <| WT.block <| WT.loop <| WT.mono (l' := [(2, pv2), (3, .pointer (some ⟨b_1, 0, none⟩)), (4, .pointer (some ⟨b_2, 0, none⟩)), (8, v2), (9, .int .i64 0)]) (S' := St w0 Φ_2 [(b_2, .cells #[.string p1.Kind, pv1_0] 40 (0, 0)), (b_1, .cells #[.string p0.Kind, pv0_0, .bool p0.Not] 37 (0, 0))] [ob v2]) ⟨rfl, rfl, rfl, rfl, rfl, trivial⟩ (fun w1 hw => (hw.sel (js := [0]) rfl).selO (js := [0, 0]) rfl) ?_
 refine loop_ind (σ := Hp × (List TBind) × Value × Int) (fun s => [(2, pv2), (3, .pointer (some ⟨b_1, 0, none⟩)), (4, .pointer (some ⟨b_2, 0, none⟩)), (8, s.2.2.1), (9, .int .i64 s.2.2.2)]) (fun s => St w0 s.1 [(b_2, .cells #[.string p1.Kind, pv1_0] 40 (0, 0)), (b_1, .cells #[.string p0.Kind, pv0_0, .bool p0.Not] 37 (0, 0))] [ob s.2.2.1]) (fun m s => m_s_MatchPat_l1 N p0 p1 p2 m s.2.1 s.2.2.2 = some r ∧ (OSl RTBind 142 4 s.1 [] s.2.2.1 s.2.1) ∧ (RSl RTBind 4 s.1 pG2 pv2 p2) ∧ (RSl RTArg 5 s.1 pG0_0 pv0_0 p0.Args) ∧ (RSl RTVal 3 s.1 pG1_0 pv1_0 p1.Fields)) (fun s hm => none_ne (show (none : Option ((List TBind) × Bool)) = some r from hm.1)) (fun n1 ih1 s hm => ?_) N (Φ_2, x1, v2, 0) ⟨h, h2, ph2, ph0_0, ph1_0⟩
 obtain ⟨Φ_3, s1, u1, s2⟩ := s
 obtain ⟨h, k1, ph2, ph0_0, ph1_0⟩ := hm
 replace h : m_s_MatchPat_l1 N p0 p1 p2 (n1 + 1) s1 s2 = some r := h
 replace k1 : OSl RTBind 142 4 Φ_3 [] u1 s1 := k1
 replace ph2 : RSl RTBind 4 Φ_3 pG2 pv2 p2 := ph2
 replace ph0_0 : RSl RTArg 5 Φ_3 pG0_0 pv0_0 p0.Args := ph0_0
 replace ph1_0 : RSl RTVal 3 Φ_3 pG1_0 pv1_0 p1.Fields := ph1_0
 show WT _ _ [(2, pv2), (3, .pointer (some ⟨b_1, 0, none⟩)), (4, .pointer (some ⟨b_2, 0, none⟩)), (8, u1), (9, .int .i64 s2)] (St w0 Φ_3 [(b_2, .cells #[.string p1.Kind, pv1_0] 40 (0, 0)), (b_1, .cells #[.string p0.Kind, pv0_0, .bool p0.Not] 37 (0, 0))] [ob u1])
 unfold m_s_MatchPat_l1 at h
 refine WT.seq <| WT.seq <| WT.region <| lq (q_move rfl) rfl <| lq (q_fieldAddr Fld_37_1 rfl) rfl <| lq (q_load1 T1_35 rfl (fun w1 hw => hw.rgO (i := 1) rfl 1 1 [pv0_0] rfl)) rfl <| lq (q_lenR Sl_35 rfl rfl ph0_0) rfl <| lq (q_lss rfl rfl) rfl <| WL.nil ?_
 refine WT.cond rfl (fun c3 => ?_) (fun c3 => ?_)
 ·replace h := ite_t h c3
  refine WT.skip <| WT.seq <| WT.block <| WT.seq <| WT.region <| lq (q_fieldAddr Fld_37_1 rfl) rfl <| lq (q_load1 T1_35 rfl (fun w1 hw => hw.rgO (i := 1) rfl 1 1 [pv0_0] rfl)) rfl <| lq (q_move rfl) rfl ?_
  obtain ⟨x2, hx2, h⟩ := bind_some h
  obtain ⟨cs1, F1, -, g1, hb1, hs1, r1⟩ := ph0_0.el (idx_some hx2).2.2
  obtain ⟨rfl, -⟩ := r1
  refine lq (q_indexAddr Sl_35 rfl rfl ph0_0 hx2) rfl <| lq (q_loadN Tn_83 rfl (fun w1 hw => (g1.of_eq 0 5 rfl rfl : rg _ _ _ [.int .i64 x2.K, .string x2.S, .int .i64 x2.V.K, .int .i64 x2.V.N, .string x2.V.S]).rangeAt hw.fro) rfl) rfl ?_
  refine ln (n_alloc (C := #[.int .i64 0, .string (⟨#[]⟩ : ByteArray), .int .i64 0, .int .i64 0, .string (⟨#[]⟩ : ByteArray)]) Zr_83 rfl) rfl (fun b_3 => ?_)
  refine ls (s_store (i := 0) (vs := [.int .i64 x2.K, .string x2.S, .int .i64 x2.V.K, .int .i64 x2.V.N, .string x2.V.S]) (C' := [.int .i64 x2.K, .string x2.S, .int .i64 x2.V.K, .int .i64 x2.V.N, .string x2.V.S]) (O' := [(b_3, .cells #[.int .i64 x2.K, .string x2.S, .int .i64 x2.V.K, .int .i64 x2.V.N, .string x2.V.S] 83 (0, 0)), (b_2, .cells #[.string p1.Kind, pv1_0] 40 (0, 0)), (b_1, .cells #[.string p0.Kind, pv0_0, .bool p0.Not] 37 (0, 0))]) Sz_83 rfl rfl rfl rfl rfl rfl ⟨rfl, rfl, rfl, rfl, rfl, trivial⟩ rfl rfl) rfl ?_
  refine WL.nil <| WT.seq <| WT.region <| lq (q_move rfl) rfl <| lq (q_fieldAddr Fld_83_1 rfl) rfl <| lq (q_load1 T1_9 rfl (fun w1 hw => hw.rgO (i := 0) rfl 1 1 [.string x2.S] rfl)) rfl ?_
  obtain ⟨x3, hx3, h⟩ := bind_some h
  refine lp (p_call Fun_168 rfl (fun w1 hw => m_s_BindOf_ok hw.fro N s1 x2.S k1.rsl hx3)) rfl <| lq (q_move rfl) rfl <| lq (q_extract rfl rfl) rfl <| lq (q_extract rfl rfl) rfl ?_
  refine ln (n_alloc (C := #[.int .i64 0, .int .i64 0, .string (⟨#[]⟩ : ByteArray)]) Zr_79 rfl) rfl (fun b_4 => ?_)
  refine ls (s_store (i := 0) (vs := [.int .i64 x3.1.K, .int .i64 x3.1.N, .string x3.1.S]) (C' := [.int .i64 x3.1.K, .int .i64 x3.1.N, .string x3.1.S]) (O' := [(b_4, .cells #[.int .i64 x3.1.K, .int .i64 x3.1.N, .string x3.1.S] 79 (0, 0)), (b_3, .cells #[.int .i64 x2.K, .string x2.S, .int .i64 x2.V.K, .int .i64 x2.V.N, .string x2.V.S] 83 (0, 0)), (b_2, .cells #[.string p1.Kind, pv1_0] 40 (0, 0)), (b_1, .cells #[.string p0.Kind, pv0_0, .bool p0.Not] 37 (0, 0))]) Sz_79 rfl rfl rfl rfl rfl rfl ⟨rfl, rfl, rfl, trivial⟩ rfl rfl) rfl ?_
  refine lq (q_assign rfl) rfl <| WL.nil <| WT.seq <| WT.seq <| WT.draw mixed (by kernel_rfl) (fun _ h => h.drew) <| qq (q_fieldAddr Fld_83_0 rfl) rfl <| qq (q_load1 T1_3 rfl (fun w1 hw => hw.rgO (i := 1) rfl 0 1 [.int .i64 x2.K] rfl)) rfl <| qq (q_eql rfl rfl) rfl <| qq (q_move rfl) rfl ?_
  obtain ⟨b2, hb_2, h⟩ := bind_some h
  refine WQ.cutN 9 [(62, .bool b2), (2, pv2), (3, .pointer (some ⟨b_1, 0, none⟩)), (4, .pointer (some ⟨b_2, 0, none⟩)), (8, u1), (9, .int .i64 s2), (10, .pointer (some ⟨b_3, 0, none⟩)), (11, .pointer (some ⟨b_4, 0, none⟩)), (12, .bool x3.2)] ?_ (fun K => ?_)
  rotate_left
  ·refine WQ.split (d := 53) rfl (fun c4 => ?_) (fun c4 => ?_)
   ·replace hb_2 := ite_t hb_2 c4
    refine WQ.yes rfl rfl <| qq (q_fieldAddr Fld_83_2 rfl) rfl <| WQ.yes rfl rfl <| qq (q_loadN Tn_79 rfl (fun w1 hw => hw.rgO (i := 1) rfl 2 3 [.int .i64 x2.V.K, .int .i64 x2.V.N, .string x2.V.S] rfl) rfl) rfl <| WQ.yes rfl rfl <| qq (q_fieldAddr Fld_40_1 rfl) rfl <| WQ.yes rfl rfl <| qq (q_load1 T1_38 rfl (fun w1 hw => hw.rgO (i := 2) rfl 1 1 [pv1_0] rfl)) rfl <| WQ.yes rfl rfl <| qq (q_move rfl) rfl <| WQ.yes rfl rfl ?_
    obtain ⟨x4, hx4, hb_2⟩ := bind_some hb_2
    obtain ⟨cs2, F2, -, g2, hb2, hs2, r2⟩ := ph1_0.el (idx_some hx4).2.2
    obtain ⟨rfl, -⟩ := r2
    refine qq (q_indexAddr Sl_38 rfl rfl ph1_0 hx4) rfl <| WQ.yes rfl rfl <| qq (q_loadN Tn_79 rfl (fun w1 hw => (g2.of_eq 0 3 rfl rfl : rg _ _ _ [.int .i64 x4.K, .int .i64 x4.N, .string x4.S]).rangeAt hw.fro) rfl) rfl <| WQ.yes rfl rfl <| qq (q_neA EqT_79 rfl rfl rfl (r := eqT_TVal x2.V x4) rfl) rfl <| WQ.q (q_pick1 rfl rfl) rfl rfl rfl ?_
    cases hb_2
    exact WQ.keep (by exact ⟨rfl, rfl, rfl, rfl, rfl, rfl, rfl, rfl, rfl, trivial⟩) K
   ·replace hb_2 := ite_f hb_2 c4
    refine WQ.no rfl rfl rfl rfl <| WQ.no rfl rfl rfl rfl <| WQ.no rfl rfl rfl rfl <| WQ.no rfl rfl rfl rfl <| WQ.no rfl rfl rfl rfl <| WQ.no rfl rfl rfl rfl <| WQ.no rfl rfl rfl rfl <| WQ.no rfl rfl rfl rfl <| WQ.q (q_pick0 rfl rfl) rfl rfl rfl ?_
    cases hb_2
    exact WQ.keep (by exact ⟨rfl, rfl, rfl, rfl, rfl, rfl, rfl, rfl, rfl, trivial⟩) K
  refine qq (q_move rfl) rfl ?_
  obtain ⟨b3, hb_3, h⟩ := bind_some h
  refine WQ.cutN 16 [(79, .bool b3), (2, pv2), (3, .pointer (some ⟨b_1, 0, none⟩)), (4, .pointer (some ⟨b_2, 0, none⟩)), (8, u1), (9, .int .i64 s2), (10, .pointer (some ⟨b_3, 0, none⟩)), (12, .bool x3.2)] ?_ (fun K => ?_)
  rotate_left
  ·refine WQ.split (d := 63) rfl (fun c5 => ?_) (fun c5 => ?_)
   ·replace hb_3 := ite_t hb_3 c5
    refine WQ.no rfl rfl rfl rfl <| WQ.no rfl rfl rfl rfl <| WQ.no rfl rfl rfl rfl <| WQ.no rfl rfl rfl rfl <| WQ.nox rfl rfl rfl rfl <| WQ.no rfl rfl rfl rfl <| WQ.no rfl rfl rfl rfl <| WQ.nox rfl rfl rfl rfl <| WQ.nox rfl rfl rfl rfl <| WQ.nox rfl rfl rfl rfl <| WQ.nox rfl rfl rfl rfl <| WQ.nox rfl rfl rfl rfl <| WQ.nox rfl rfl rfl rfl <| WQ.nox rfl rfl rfl rfl <| WQ.no rfl rfl rfl rfl <| WQ.q (q_pick1 rfl rfl) rfl rfl rfl ?_
    cases hb_3
    exact WQ.keep (by exact ⟨rfl, rfl, rfl, rfl, rfl, rfl, rfl, rfl, trivial⟩) K
   ·replace hb_3 := ite_f hb_3 c5
    refine WQ.yes rfl rfl <| qq (q_fieldAddr Fld_83_0 rfl) rfl <| WQ.yes rfl rfl <| qq (q_load1 T1_3 rfl (fun w1 hw => hw.rgO (i := 1) rfl 0 1 [.int .i64 x2.K] rfl)) rfl <| WQ.yes rfl rfl <| qq (q_eql rfl rfl) rfl <| WQ.yes rfl rfl <| qq (q_move rfl) rfl ?_
    obtain ⟨b4, hb_4, hb_3⟩ := bind_some hb_3
    refine WQ.cutN 2 [(69, .bool b4), (2, pv2), (3, .pointer (some ⟨b_1, 0, none⟩)), (4, .pointer (some ⟨b_2, 0, none⟩)), (8, u1), (9, .int .i64 s2), (10, .pointer (some ⟨b_3, 0, none⟩)), (11, .pointer (some ⟨b_4, 0, none⟩)), (12, .bool x3.2), (63, .bool false)] ?_ (fun K => ?_)
    rotate_left
    ·refine WQ.split (d := 67) rfl (fun c6 => ?_) (fun c6 => ?_)
     ·replace hb_4 := ite_t hb_4 c6
      refine WQ.yes rfl rfl <| qq (q_move rfl) rfl <| WQ.yes rfl rfl <| WQ.q (q_pick1 rfl rfl) rfl rfl rfl ?_
      cases hb_4
      exact WQ.keep (by exact ⟨rfl, rfl, rfl, rfl, rfl, rfl, rfl, rfl, rfl, rfl, trivial⟩) K
     ·replace hb_4 := ite_f hb_4 c6
      refine WQ.no rfl rfl rfl rfl <| WQ.yes rfl rfl <| WQ.q (q_pick0 rfl rfl) rfl rfl rfl ?_
      cases hb_4
      exact WQ.keep (by exact ⟨rfl, rfl, rfl, rfl, rfl, rfl, rfl, rfl, rfl, rfl, trivial⟩) K
    refine WQ.yes rfl rfl <| qq (q_move rfl) rfl ?_
    obtain ⟨b5, hb_5, hb_3⟩ := bind_some hb_3
    refine WQ.cutN 8 [(78, .bool b5), (2, pv2), (3, .pointer (some ⟨b_1, 0, none⟩)), (4, .pointer (some ⟨b_2, 0, none⟩)), (8, u1), (9, .int .i64 s2), (10, .pointer (some ⟨b_3, 0, none⟩)), (12, .bool x3.2), (63, .bool false)] ?_ (fun K => ?_)
    rotate_left
    ·refine WQ.split (d := 70) rfl (fun c7 => ?_) (fun c7 => ?_)
     ·replace hb_5 := ite_t hb_5 c7
      refine WQ.yes rfl rfl <| qq (q_loadN Tn_79 rfl (fun w1 hw => hw.rgO (i := 0) rfl 0 3 [.int .i64 x3.1.K, .int .i64 x3.1.N, .string x3.1.S] rfl) rfl) rfl <| WQ.yes rfl rfl <| qq (q_fieldAddr Fld_40_1 rfl) rfl <| WQ.yes rfl rfl <| qq (q_load1 T1_38 rfl (fun w1 hw => hw.rgO (i := 2) rfl 1 1 [pv1_0] rfl)) rfl <| WQ.yes rfl rfl <| qq (q_move rfl) rfl <| WQ.yes rfl rfl ?_
      obtain ⟨x5, hx5, hb_5⟩ := bind_some hb_5
      obtain ⟨cs3, F3, -, g3, hb3, hs3, r3⟩ := ph1_0.el (idx_some hx5).2.2
      obtain ⟨rfl, -⟩ := r3
      refine qq (q_indexAddr Sl_38 rfl rfl ph1_0 hx5) rfl <| WQ.yes rfl rfl <| qq (q_loadN Tn_79 rfl (fun w1 hw => (g3.of_eq 0 3 rfl rfl : rg _ _ _ [.int .i64 x5.K, .int .i64 x5.N, .string x5.S]).rangeAt hw.fro) rfl) rfl <| WQ.yes rfl rfl <| qq (q_neA EqT_79 rfl rfl rfl (r := eqT_TVal x3.1 x5) rfl) rfl <| WQ.yes rfl rfl <| WQ.q (q_pick1 rfl rfl) rfl rfl rfl ?_
      cases hb_5
      exact WQ.keep (by exact ⟨rfl, rfl, rfl, rfl, rfl, rfl, rfl, rfl, rfl, trivial⟩) K
     ·replace hb_5 := ite_f hb_5 c7
      refine WQ.no rfl rfl rfl rfl <| WQ.no rfl rfl rfl rfl <| WQ.no rfl rfl rfl rfl <| WQ.no rfl rfl rfl rfl <| WQ.no rfl rfl rfl rfl <| WQ.no rfl rfl rfl rfl <| WQ.no rfl rfl rfl rfl <| WQ.yes rfl rfl <| WQ.q (q_pick0 rfl rfl) rfl rfl rfl ?_
      cases hb_5
      exact WQ.keep (by exact ⟨rfl, rfl, rfl, rfl, rfl, rfl, rfl, rfl, rfl, trivial⟩) K
    refine WQ.q (q_pick0 rfl rfl) rfl rfl rfl ?_
    cases hb_3
    exact WQ.keep (by exact ⟨rfl, rfl, rfl, rfl, rfl, rfl, rfl, rfl, trivial⟩) K
  refine WQ.nil ?_
  refine WT.cond rfl (fun c8 => ?_) (fun c8 => ?_)
  ·replace h := ite_t h c8
   refine WT.seq <| WT.region ?_
   have rc2 : RC RTBind 4 Φ_3 ([] : List (List Nat)) [] ([] : List TBind) := RC.nil _ _ _
   refine le' (e_lit (vs := []) (C := #[]) RTBind.lasts Sl_28 Zr_142 rfl rfl rfl rfl (fill_made MC_142_0 (fill_nil)) rfl rc2 rfl (by simpa using Kw.nil)) rfl (fun v3 Φ_4 D3 q3 => ?_)
   obtain ⟨fr3, h3⟩ := q3
   replace h3 : OSl RTBind 142 4 Φ_4 [] v3 ([] : List TBind) := by simpa using h3
   replace ph2 := ph2.frame RTBind.lasts fr3 (Dj.empty _)
   refine lq (q_move rfl) rfl ?_
   obtain ⟨x6, hx6, h⟩ := bind_some h
   refine le' (e_appF RTBind.lasts RTBind.one RTBind.flat Sl_28 Ei_142 rfl rfl rfl rfl rfl (js := [0]) (Rr := [ob u1]) rfl h3 ph2 hx6) rfl (fun v4 Φ_5 D4 q4 => ?_)
   obtain ⟨⟨ap2, fr4⟩, h4⟩ := q4
   refine lq (q_assign rfl) rfl <| lq (q_assign rfl) rfl <| WL.nil ?_
   refine WT.ret Try.func133 (resOk.two rfl rfl) (fun w1 hw => ?_)
   subst hb0
   cases h
   refine postG_of_St (js := [0]) hw rfl ⟨v4, rfl, rfl, h4⟩
  replace h := ite_f h c8
  refine WT.skip <| WT.seq <| WT.region <| lq (q_fieldAddr Fld_83_0 rfl) rfl <| lq (q_load1 T1_3 rfl (fun w1 hw => hw.rgO (i := 1) rfl 0 1 [.int .i64 x2.K] rfl)) rfl <| lq (q_eql rfl rfl) rfl <| lq (q_move rfl) rfl ?_
  obtain ⟨b6, hb_6, h⟩ := bind_some h
  refine WL.cutN 3 [(89, .bool b6), (2, pv2), (3, .pointer (some ⟨b_1, 0, none⟩)), (4, .pointer (some ⟨b_2, 0, none⟩)), (8, u1), (9, .int .i64 s2), (10, .pointer (some ⟨b_3, 0, none⟩))] ?_ (fun K => ?_)
  rotate_left
  ·refine WL.split (d := 86) rfl (fun c9 => ?_) (fun c9 => ?_)
   ·replace hb_6 := ite_t hb_6 c9
    refine WL.yes rfl rfl <| lq (q_move rfl) rfl <| WL.yes rfl rfl <| lq (q_not rfl) rfl <| WL.q (q_pick1 rfl rfl) rfl rfl rfl ?_
    cases hb_6
    exact WL.keep (by exact ⟨rfl, rfl, rfl, rfl, rfl, rfl, rfl, trivial⟩) K
   ·replace hb_6 := ite_f hb_6 c9
    refine WL.no rfl rfl rfl rfl <| WL.no rfl rfl rfl rfl <| WL.q (q_pick0 rfl rfl) rfl rfl rfl ?_
    cases hb_6
    exact WL.keep (by exact ⟨rfl, rfl, rfl, rfl, rfl, rfl, rfl, trivial⟩) K
  refine WL.nil ?_
  refine WT.cond rfl (fun c10 => ?_) (fun c10 => ?_)
  ·replace h := ite_t h c10
   refine WT.mix (Kn Φ_3 pG1_0 [(b_4, .cells #[.int .i64 x3.1.K, .int .i64 x3.1.N, .string x3.1.S] 79 (0, 0)), (b_3, .cells #[.int .i64 x2.K, .string x2.S, .int .i64 x2.V.K, .int .i64 x2.V.N, .string x2.V.S] 83 (0, 0)), (b_2, .cells #[.string p1.Kind, pv1_0] 40 (0, 0)), (b_1, .cells #[.string p0.Kind, pv0_0, .bool p0.Not] 37 (0, 0))]) (fun _ => true) mixed (fun _ h => h.drew) <| mq 0 rfl (by kernel_rfl) (fun w1 hw => Kn.of (fun _ _ _ h => h) (AllIn.mem ⟨gM 0 rfl, gM 1 rfl, gM 2 rfl, gM 3 rfl, trivial⟩) hw) (q_move rfl) rfl ?_
   refine mq 1 rfl (by kernel_rfl) (fun w1 hw => Kn.of (fun _ _ _ h => h) (AllIn.mem ⟨gM 0 rfl, gM 1 rfl, gM 2 rfl, gM 3 rfl, trivial⟩) hw) (q_fieldAddr Fld_83_1 rfl) rfl <| mq 2 rfl (by kernel_rfl) (fun w1 hw => Kn.of (fun _ _ _ h => h) (AllIn.mem ⟨gM 0 rfl, gM 1 rfl, gM 2 rfl, gM 3 rfl, trivial⟩) hw) (q_load1 T1_9 rfl (fun w1 hw => hw.rgO (i := 1) rfl 1 1 [.string x2.S] rfl)) rfl ?_
   refine mq 3 rfl (by kernel_rfl) (fun w1 hw => Kn.of (fun _ _ _ h => h) (AllIn.mem ⟨gM 0 rfl, gM 1 rfl, gM 2 rfl, gM 3 rfl, trivial⟩) hw) (q_fieldAddr Fld_40_1 rfl) rfl <| mq 4 rfl (by kernel_rfl) (fun w1 hw => Kn.of (fun _ _ _ h => h) (AllIn.mem ⟨gM 0 rfl, gM 1 rfl, gM 2 rfl, gM 3 rfl, trivial⟩) hw) (q_load1 T1_38 rfl (fun w1 hw => hw.rgO (i := 2) rfl 1 1 [pv1_0] rfl)) rfl ?_
   refine mq 5 rfl (by kernel_rfl) (fun w1 hw => Kn.of (fun _ _ _ h => h) (AllIn.mem ⟨gM 0 rfl, gM 1 rfl, gM 2 rfl, gM 3 rfl, trivial⟩) hw) (q_move rfl) rfl ?_
   obtain ⟨x7, hx7, h⟩ := bind_some h
   obtain ⟨cs4, F4, -, g4, hb4, hs4, r4⟩ := ph1_0.el (idx_some hx7).2.2
   obtain ⟨rfl, -⟩ := r4
   refine mq 6 rfl (by kernel_rfl) (fun w1 hw => Kn.of (fun _ _ _ h => h) (AllIn.mem ⟨gM 0 rfl, gM 1 rfl, gM 2 rfl, gM 3 rfl, trivial⟩) hw) (q_indexAddr Sl_38 rfl rfl ph1_0 hx7) rfl <| mq 7 rfl (by kernel_rfl) (fun w1 hw => Kn.of (fun _ _ _ h => h) (AllIn.mem ⟨gM 0 rfl, gM 1 rfl, gM 2 rfl, gM 3 rfl, trivial⟩) hw) (q_loadN Tn_79 rfl (fun w1 hw => hw.rg hb4 (g4.of_eq 0 3 rfl rfl : rg _ _ _ [.int .i64 x7.K, .int .i64 x7.N, .string x7.S])) rfl) rfl ?_
   refine mq 8 rfl (by kernel_rfl) (fun w1 hw => Kn.of (fun _ _ _ h => h) (AllIn.mem ⟨gM 0 rfl, gM 1 rfl, gM 2 rfl, gM 3 rfl, trivial⟩) hw) (q_build (vs := [(0, .string x2.S), (1, .agg [.int .i64 x7.K, .int .i64 x7.N, .string x7.S].toArray)]) (C := #[.string x2.S, .int .i64 x7.K, .int .i64 x7.N, .string x7.S]) Pl_142 Zr_142 rfl (fill_cons (cells := [.string ⟨#[]⟩, .int .i64 0, .int .i64 0, .string ⟨#[]⟩]) (c := [.string x2.S]) (C' := [.string x2.S, .int .i64 0, .int .i64 0, .string ⟨#[]⟩]) rfl rfl rfl rfl rfl (fill_cons (cells := [.string x2.S, .int .i64 0, .int .i64 0, .string ⟨#[]⟩]) (c := [.int .i64 x7.K, .int .i64 x7.N, .string x7.S]) (C' := [.string x2.S, .int .i64 x7.K, .int .i64 x7.N, .string x7.S]) rfl rfl rfl rfl rfl (fill_nil)))) rfl ?_
   have rc3 : RC RTBind 4 Φ_3 ([[]] : List (List Nat)) [.string x2.S, .int .i64 x7.K, .int .i64 x7.N, .string x7.S] ([(⟨x2.S, x7⟩ : TBind)] : List TBind) := RC.cons (c := [.string x2.S, .int .i64 x7.K, .int .i64 x7.N, .string x7.S]) (cells := []) ⟨rfl, rfl⟩ rfl (RC.nil _ _ _)
   refine WM.one 9 (by kernel_rfl) (me rfl (fun _ v Φx D w1 hq hw => Kn.of (fun k hk o ho => hq.1 k o (by simp) ((fun _ _ _ h => h) k hk o ho)) (AllIn.mem ⟨gM 0 rfl, gM 1 rfl, gM 2 rfl, gM 3 rfl, trivial⟩) hw) (e_lit (vs := [(0, .agg [.string x2.S, .int .i64 x7.K, .int .i64 x7.N, .string x7.S].toArray)]) (C := #[.string x2.S, .int .i64 x7.K, .int .i64 x7.N, .string x7.S]) RTBind.lasts Sl_28 Zr_142 rfl rfl rfl rfl (fill_made MC_142_1 (fill_cons (cells := [.string ⟨#[]⟩, .int .i64 0, .int .i64 0, .string ⟨#[]⟩]) (c := [.string x2.S, .int .i64 x7.K, .int .i64 x7.N, .string x7.S]) (C' := [.string x2.S, .int .i64 x7.K, .int .i64 x7.N, .string x7.S]) rfl rfl rfl rfl rfl (fill_nil))) rfl rc3 rfl (by simpa using Kw.nil)) rfl (fun v5 Φ_6 D5 q5 => ?_))
   obtain ⟨fr5, h5⟩ := q5
   replace h5 : OSl RTBind 142 4 Φ_6 [] v5 ([(⟨x2.S, x7⟩ : TBind)] : List TBind) := by simpa using h5
   replace ph2 := ph2.frame RTBind.lasts fr5 (Dj.empty _)
   replace ph0_0 := ph0_0.frame RTArg.lasts fr5 (Dj.empty _)
   replace ph1_0 := ph1_0.frame RTVal.lasts fr5 (Dj.empty _)
   replace k1 := k1.frame RTBind.lasts fr5 (Dj.empty _) (Dj.empty _)
   obtain ⟨x8, hx8, h⟩ := bind_some h
   refine WM.one 10 (by kernel_rfl) (me rfl (fun _ v Φx D w1 hq hw => Kn.of (fun k hk o ho => hq.1.2 k o ((hq.1.1.o pa1_0) k hk) ((fun k hk o ho => fr5 k o (by simp) ((fun _ _ _ h => h) k hk o ho)) k hk o ho)) (AllIn.mem ⟨gM 0 rfl, gM 1 rfl, gM 2 rfl, gM 3 rfl, trivial⟩) hw) (e_appF RTBind.lasts RTBind.one RTBind.flat Sl_28 Ei_142 rfl rfl rfl rfl rfl (js := [1]) (Rr := [ob v5]) rfl k1 h5.rsl hx8) rfl (fun v6 Φ_7 D6 q6 => ?_))
   obtain ⟨⟨ap3, fr6⟩, h6⟩ := q6
   replace ph2 := ph2.frame RTBind.lasts fr6 (ap3.o pa2)
   replace ph0_0 := ph0_0.frame RTArg.lasts fr6 (ap3.o pa0_0)
   replace ph1_0 := ph1_0.frame RTVal.lasts fr6 (ap3.o pa1_0)
   refine mq 11 rfl (by kernel_rfl) (fun w1 hw => Kn.of (fun k hk o ho => fr6 k o ((ap3.o pa1_0) k hk) ((fun k hk o ho => fr5 k o (by simp) ((fun _ _ _ h => h) k hk o ho)) k hk o ho)) (AllIn.mem ⟨gM 0 rfl, gM 1 rfl, gM 2 rfl, gM 3 rfl, trivial⟩) hw) (q_assign rfl) rfl <| WM.nil (by kernel_rfl) <| WT.inBlock <| WT.region <| lq (q_move rfl) rfl ?_
   refine lq (q_add rfl rfl) rfl <| lq (q_assign rfl) rfl <| WL.nil ?_
   refine WT.inLoop (WT.mono (l' := [(2, pv2), (3, .pointer (some ⟨b_1, 0, none⟩)), (4, .pointer (some ⟨b_2, 0, none⟩)), (8, v6), (9, .int .i64 (IntKind.i64.wrap (s2 + 1)))]) (S' := St w0 Φ_7 [(b_2, .cells #[.string p1.Kind, pv1_0] 40 (0, 0)), (b_1, .cells #[.string p0.Kind, pv0_0, .bool p0.Not] 37 (0, 0))] [ob v6]) ⟨rfl, rfl, rfl, rfl, rfl, trivial⟩ (fun w1 hw => (hw.sel (js := [0]) rfl).selO (js := [2, 2]) rfl) ?_)
   exact ih1 (Φ_7, x8, v6, IntKind.i64.wrap (s2 + 1)) ⟨h, h6, ph2, ph0_0, ph1_0⟩
  replace h := ite_f h c10
  refine WT.skip <| WT.inBlock <| WT.region <| lq (q_move rfl) rfl <| lq (q_add rfl rfl) rfl <| lq (q_assign rfl) rfl <| WL.nil ?_
  refine WT.inLoop (WT.mono (l' := [(2, pv2), (3, .pointer (some ⟨b_1, 0, none⟩)), (4, .pointer (some ⟨b_2, 0, none⟩)), (8, u1), (9, .int .i64 (IntKind.i64.wrap (s2 + 1)))]) (S' := St w0 Φ_3 [(b_2, .cells #[.string p1.Kind, pv1_0] 40 (0, 0)), (b_1, .cells #[.string p0.Kind, pv0_0, .bool p0.Not] 37 (0, 0))] [ob u1]) ⟨rfl, rfl, rfl, rfl, rfl, trivial⟩ (fun w1 hw => (hw.sel (js := [0]) rfl).selO (js := [2, 2]) rfl) ?_)
  exact ih1 (Φ_3, s1, u1, IntKind.i64.wrap (s2 + 1)) ⟨h, k1, ph2, ph0_0, ph1_0⟩
 replace h := ite_f h c3
 refine WT.exit rfl <| WT.seq <| WT.region <| lq (q_move rfl) rfl <| lq (q_assign rfl) rfl <| lq (q_assign rfl) rfl <| WL.nil ?_
 refine WT.ret Try.func133 (resOk.two rfl rfl) (fun w1 hw => ?_)
 subst hb0
 cases h
 refine postG_of_St (js := [0]) hw rfl ⟨u1, rfl, rfl, k1⟩
theorem m_s_Blocked_ok {Φ : Hp} {w : World} (hΦ : In Φ w) (N : Nat) (p0 : TRule) (p1 : TStore) (p2 : (List TBind)) {pv0_0 : Value} {pG0_0 : List Nat} {pv0_1 : Value} {pG0_1 : List Nat} {pv0_2 : Value} {pG0_2 : List Nat} {pv1_0 : Value} {pG1_0 : List Nat} {pv2 : Value} {pG2 : List Nat} (ph0_0 : RSl RTPat 3 Φ pG0_0 pv0_0 p0.Pats) (ph0_1 : RSl RTCond 11 Φ pG0_1 pv0_1 p0.Conds) (ph0_2 : RSl RTAct 5 Φ pG0_2 pv0_2 p0.Acts) (ph1_0 : RSl RTItem 3 Φ pG1_0 pv1_0 p1.Items) (ph2 : RSl RTBind 4 Φ pG2 pv2 p2) {r : Bool} (h : m_s_Blocked N p0 p1 p2 = some r) :
  Calls Try.prog 57 [.agg [.string p0.Name, .int .i64 p0.Sal, pv0_0, pv0_1, pv0_2].toArray, .agg [pv1_0, .int .i64 p1.Next].toArray, pv2].toArray w (Post (.bool r) w) := by
 refine enter Try.func57 rfl Try.ntmps57 rfl (St.start0 hΦ) ?_
 have pa0_0 : Old ⟨w, [], Φ⟩ pG0_0 := Old.mk hΦ ph0_0.kn (Dj.empty _)
 have pa0_1 : Old ⟨w, [], Φ⟩ pG0_1 := Old.mk hΦ ph0_1.kn (Dj.empty _)
 have pa0_2 : Old ⟨w, [], Φ⟩ pG0_2 := Old.mk hΦ ph0_2.kn (Dj.empty _)
 have pa1_0 : Old ⟨w, [], Φ⟩ pG1_0 := Old.mk hΦ ph1_0.kn (Dj.empty _)
 have pa2 : Old ⟨w, [], Φ⟩ pG2 := Old.mk hΦ ph2.kn (Dj.empty _)
 revert pa0_0 pa0_1 pa0_2 pa1_0 pa2
 generalize hb0 : (⟨w, [], Φ⟩ : Base) = w0
 intro pa0_0 pa0_1 pa0_2 pa1_0 pa2
 unfold m_s_Blocked at h
 refine WT.seq <| WT.region ?_
 refine ln (n_box (C := #[.string p0.Name, .int .i64 p0.Sal, pv0_0, pv0_1, pv0_2]) rfl rfl) rfl (fun b_1 => ?_)
 refine ln (n_box (C := #[pv1_0, .int .i64 p1.Next]) rfl rfl) rfl (fun b_2 => ?_)
 refine lq (q_assign rfl) rfl <| WL.nil <| WT.seq <| WT.seq <| WT.region <| lq (q_assign rfl) rfl <| WL.nil <| WT.block <| WT.loop <| WT.mono (l' := [(2, pv2), (3, .pointer (some ⟨b_1, 0, none⟩)), (4, .pointer (some ⟨b_2, 0, none⟩)), (7, .int .i64 0)]) (S' := St w0 Φ [(b_2, .cells #[pv1_0, .int .i64 p1.Next] 102 (0, 0)), (b_1, .cells #[.string p0.Name, .int .i64 p0.Sal, pv0_0, pv0_1, pv0_2] 66 (0, 0))] []) ⟨rfl, rfl, rfl, rfl, trivial⟩ (fun w1 hw => (hw.sel (js := []) rfl).selO (js := [0, 0]) rfl) ?_
 refine loop_ind (σ := Hp × Int) (fun s => [(2, pv2), (3, .pointer (some ⟨b_1, 0, none⟩)), (4, .pointer (some ⟨b_2, 0, none⟩)), (7, .int .i64 s.2)]) (fun s => St w0 s.1 [(b_2, .cells #[pv1_0, .int .i64 p1.Next] 102 (0, 0)), (b_1, .cells #[.string p0.Name, .int .i64 p0.Sal, pv0_0, pv0_1, pv0_2] 66 (0, 0))] []) (fun m s => m_s_Blocked_l1 N p0 p1 p2 m s.2 = some r ∧ (RSl RTBind 4 s.1 pG2 pv2 p2) ∧ (RSl RTPat 3 s.1 pG0_0 pv0_0 p0.Pats) ∧ (RSl RTCond 11 s.1 pG0_1 pv0_1 p0.Conds) ∧ (RSl RTAct 5 s.1 pG0_2 pv0_2 p0.Acts) ∧ (RSl RTItem 3 s.1 pG1_0 pv1_0 p1.Items)) (fun s hm => none_ne (show (none : Option (Bool)) = some r from hm.1)) (fun n1 ih1 s hm => ?_) N (Φ, 0) ⟨h, ph2, ph0_0, ph0_1, ph0_2, ph1_0⟩
 obtain ⟨Φ_1, s1⟩ := s
 obtain ⟨h, ph2, ph0_0, ph0_1, ph0_2, ph1_0⟩ := hm
 replace h : m_s_Blocked_l1 N p0 p1 p2 (n1 + 1) s1 = some r := h
 replace ph2 : RSl RTBind 4 Φ_1 pG2 pv2 p2 := ph2
 replace ph0_0 : RSl RTPat 3 Φ_1 pG0_0 pv0_0 p0.Pats := ph0_0
 replace ph0_1 : RSl RTCond 11 Φ_1 pG0_1 pv0_1 p0.Conds := ph0_1
 replace ph0_2 : RSl RTAct 5 Φ_1 pG0_2 pv0_2 p0.Acts := ph0_2
 replace ph1_0 : RSl RTItem 3 Φ_1 pG1_0 pv1_0 p1.Items := ph1_0
 show WT _ _ [(2, pv2), (3, .pointer (some ⟨b_1, 0, none⟩)), (4, .pointer (some ⟨b_2, 0, none⟩)), (7, .int .i64 s1)] (St w0 Φ_1 [(b_2, .cells #[pv1_0, .int .i64 p1.Next] 102 (0, 0)), (b_1, .cells #[.string p0.Name, .int .i64 p0.Sal, pv0_0, pv0_1, pv0_2] 66 (0, 0))] [])
 unfold m_s_Blocked_l1 at h
 refine WT.seq <| WT.seq <| WT.region <| lq (q_move rfl) rfl <| lq (q_fieldAddr Fld_66_2 rfl) rfl <| lq (q_load1 T1_62 rfl (fun w1 hw => hw.rgO (i := 1) rfl 2 1 [pv0_0] rfl)) rfl <| lq (q_lenR Sl_62 rfl rfl ph0_0) rfl <| lq (q_lss rfl rfl) rfl <| WL.nil ?_
 refine WT.cond rfl (fun c1 => ?_) (fun c1 => ?_)
 ·replace h := ite_t h c1
  refine WT.skip <| WT.seq <| WT.block <| WT.seq <| WT.region <| lq (q_assign rfl) rfl <| WL.nil <| WT.block <| WT.loop <| WT.mono (l' := [(2, pv2), (3, .pointer (some ⟨b_1, 0, none⟩)), (4, .pointer (some ⟨b_2, 0, none⟩)), (7, .int .i64 s1), (8, .int .i64 0)]) (S' := St w0 Φ_1 [(b_2, .cells #[pv1_0, .int .i64 p1.Next] 102 (0, 0)), (b_1, .cells #[.string p0.Name, .int .i64 p0.Sal, pv0_0, pv0_1, pv0_2] 66 (0, 0))] []) ⟨rfl, rfl, rfl, rfl, rfl, trivial⟩ (fun w1 hw => (hw.sel (js := []) rfl).selO (js := [0, 0]) rfl) ?_
  refine loop_ind (σ := Hp × Int) (fun s => [(2, pv2), (3, .pointer (some ⟨b_1, 0, none⟩)), (4, .pointer (some ⟨b_2, 0, none⟩)), (7, .int .i64 s1), (8, .int .i64 s.2)]) (fun s => St w0 s.1 [(b_2, .cells #[pv1_0, .int .i64 p1.Next] 102 (0, 0)), (b_1, .cells #[.string p0.Name, .int .i64 p0.Sal, pv0_0, pv0_1, pv0_2] 66 (0, 0))] []) (fun m s => m_s_Blocked_l2 N p0 p1 p2 s1 (m_s_Blocked_l1 N p0 p1 p2 n1) m s.2 = some r ∧ (RSl RTBind 4 s.1 pG2 pv2 p2) ∧ (RSl RTPat 3 s.1 pG0_0 pv0_0 p0.Pats) ∧ (RSl RTCond 11 s.1 pG0_1 pv0_1 p0.Conds) ∧ (RSl RTAct 5 s.1 pG0_2 pv0_2 p0.Acts) ∧ (RSl RTItem 3 s.1 pG1_0 pv1_0 p1.Items)) (fun s hm => none_ne (show (none : Option (Bool)) = some r from hm.1)) (fun n2 ih2 s hm => ?_) N (Φ_1, 0) ⟨h, ph2, ph0_0, ph0_1, ph0_2, ph1_0⟩
  obtain ⟨Φ_2, s2⟩ := s
  obtain ⟨h, ph2, ph0_0, ph0_1, ph0_2, ph1_0⟩ := hm
  replace h : m_s_Blocked_l2 N p0 p1 p2 s1 (m_s_Blocked_l1 N p0 p1 p2 n1) (n2 + 1) s2 = some r := h
  replace ph2 : RSl RTBind 4 Φ_2 pG2 pv2 p2 := ph2
  replace ph0_0 : RSl RTPat 3 Φ_2 pG0_0 pv0_0 p0.Pats := ph0_0
  replace ph0_1 : RSl RTCond 11 Φ_2 pG0_1 pv0_1 p0.Conds := ph0_1
  replace ph0_2 : RSl RTAct 5 Φ_2 pG0_2 pv0_2 p0.Acts := ph0_2
  replace ph1_0 : RSl RTItem 3 Φ_2 pG1_0 pv1_0 p1.Items := ph1_0
  show WT _ _ [(2, pv2), (3, .pointer (some ⟨b_1, 0, none⟩)), (4, .pointer (some ⟨b_2, 0, none⟩)), (7, .int .i64 s1), (8, .int .i64 s2)] (St w0 Φ_2 [(b_2, .cells #[pv1_0, .int .i64 p1.Next] 102 (0, 0)), (b_1, .cells #[.string p0.Name, .int .i64 p0.Sal, pv0_0, pv0_1, pv0_2] 66 (0, 0))] [])
  unfold m_s_Blocked_l2 at h
  refine WT.seq <| WT.seq <| WT.region <| lq (q_move rfl) rfl <| lq (q_fieldAddr Fld_102_0 rfl) rfl <| lq (q_load1 T1_100 rfl (fun w1 hw => hw.rgO (i := 0) rfl 0 1 [pv1_0] rfl)) rfl <| lq (q_lenR Sl_100 rfl rfl ph1_0) rfl <| lq (q_lss rfl rfl) rfl <| lq (q_move rfl) rfl ?_
  obtain ⟨b1, hb_1, h⟩ := bind_some h
  refine WL.cutN 7 [(30, .bool b1), (2, pv2), (3, .pointer (some ⟨b_1, 0, none⟩)), (4, .pointer (some ⟨b_2, 0, none⟩)), (7, .int .i64 s1), (8, .int .i64 s2)] ?_ (fun K => ?_)
  rotate_left
  ·refine WL.split (d := 23) rfl (fun c2 => ?_) (fun c2 => ?_)
   ·replace hb_1 := ite_t hb_1 c2
    refine WL.yes rfl rfl <| lq (q_fieldAddr Fld_66_2 rfl) rfl <| WL.yes rfl rfl <| lq (q_load1 T1_62 rfl (fun w1 hw => hw.rgO (i := 1) rfl 2 1 [pv0_0] rfl)) rfl <| WL.yes rfl rfl <| lq (q_move rfl) rfl <| WL.yes rfl rfl ?_
    obtain ⟨x1, hx1, hb_1⟩ := bind_some hb_1
    obtain ⟨cs1, F1, -, g1, hb1, hs1, r1⟩ := ph0_0.el (idx_some hx1).2.2
    obtain ⟨v1, G1, rfl, hq1, h1⟩ := r1
    obtain rfl := hq1.symm
    refine lq (q_indexAddr Sl_62 rfl rfl ph0_0 hx1) rfl <| WL.yes rfl rfl <| lq (q_fieldAddr Fld_37_2 rfl) rfl <| WL.yes rfl rfl <| lq (q_load1 T1_4 rfl (fun w1 hw => (g1.of_eq 2 1 rfl rfl : rg _ _ _ [.bool x1.Not]).rangeAt hw.fro)) rfl <| WL.q (q_pick1 rfl rfl) rfl rfl rfl ?_
    cases hb_1
    exact WL.keep (by exact ⟨rfl, rfl, rfl, rfl, rfl, rfl, trivial⟩) K
   ·replace hb_1 := ite_f hb_1 c2
    refine WL.no rfl rfl rfl rfl <| WL.no rfl rfl rfl rfl <| WL.no rfl rfl rfl rfl <| WL.no rfl rfl rfl rfl <| WL.no rfl rfl rfl rfl <| WL.no rfl rfl rfl rfl <| WL.q (q_pick0 rfl rfl) rfl rfl rfl ?_
    cases hb_1
    exact WL.keep (by exact ⟨rfl, rfl, rfl, rfl, rfl, rfl, trivial⟩) K
  refine WL.nil ?_
  refine WT.cond rfl (fun c3 => ?_) (fun c3 => ?_)
  ·replace h := ite_t h c3
   refine WT.skip <| WT.seq <| WT.block <| WT.seq <| WT.mix (Kn Φ_2 (pG0_0 ++ pG1_0) [(b_2, .cells #[pv1_0, .int .i64 p1.Next] 102 (0, 0)), (b_1, .cells #[.string p0.Name, .int .i64 p0.Sal, pv0_0, pv0_1, pv0_2] 66 (0, 0))]) (fun _ => true) mixed (fun _ h => h.drew) <| mq 0 rfl (by kernel_rfl) (fun w1 hw => Kn.of (fun _ _ _ h => h) (AllIn.mem ⟨gM 0 rfl, gM 1 rfl, trivial⟩) hw) (q_fieldAddr Fld_66_2 rfl) rfl ?_
   refine mq 1 rfl (by kernel_rfl) (fun w1 hw => Kn.of (fun _ _ _ h => h) (AllIn.mem ⟨gM 0 rfl, gM 1 rfl, trivial⟩) hw) (q_load1 T1_62 rfl (fun w1 hw => hw.rgO (i := 1) rfl 2 1 [pv0_0] rfl)) rfl <| mq 2 rfl (by kernel_rfl) (fun w1 hw => Kn.of (fun _ _ _ h => h) (AllIn.mem ⟨gM 0 rfl, gM 1 rfl, trivial⟩) hw) (q_move rfl) rfl ?_
   obtain ⟨x2, hx2, h⟩ := bind_some h
   obtain ⟨cs2, F2, -, g2, hb2, hs2, r2⟩ := ph0_0.el (idx_some hx2).2.2
   obtain ⟨v2, G2, rfl, hq2, h2⟩ := r2
   obtain rfl := hq2.symm
   refine mq 3 rfl (by kernel_rfl) (fun w1 hw => Kn.of (fun _ _ _ h => h) (AllIn.mem ⟨gM 0 rfl, gM 1 rfl, trivial⟩) hw) (q_indexAddr Sl_62 rfl rfl ph0_0 hx2) rfl <| mq 4 rfl (by kernel_rfl) (fun w1 hw => Kn.of (fun _ _ _ h => h) (AllIn.mem ⟨gM 0 rfl, gM 1 rfl, trivial⟩) hw) (q_loadN Tn_37 rfl (fun w1 hw => hw.rg (List.mem_append.2 (.inl hb2)) (g2.of_eq 0 3 rfl rfl : rg _ _ _ [.string x2.Kind, v2, .bool x2.Not])) rfl) rfl ?_
   refine mq 5 rfl (by kernel_rfl) (fun w1 hw => Kn.of (fun _ _ _ h => h) (AllIn.mem ⟨gM 0 rfl, gM 1 rfl, trivial⟩) hw) (q_fieldAddr Fld_102_0 rfl) rfl <| mq 6 rfl (by kernel_rfl) (fun w1 hw => Kn.of (fun _ _ _ h => h) (AllIn.mem ⟨gM 0 rfl, gM 1 rfl, trivial⟩) hw) (q_load1 T1_100 rfl (fun w1 hw => hw.rgO (i := 0) rfl 0 1 [pv1_0] rfl)) rfl ?_
   refine mq 7 rfl (by kernel_rfl) (fun w1 hw => Kn.of (fun _ _ _ h => h) (AllIn.mem ⟨gM 0 rfl, gM 1 rfl, trivial⟩) hw) (q_move rfl) rfl ?_
   obtain ⟨x3, hx3, h⟩ := bind_some h
   obtain ⟨cs3, F3, -, g3, hb3, hs3, r3⟩ := ph1_0.el (idx_some hx3).2.2
   obtain ⟨v3, G3, rfl, hq3, h3⟩ := r3
   obtain rfl := hq3.symm
   refine mq 8 rfl (by kernel_rfl) (fun w1 hw => Kn.of (fun _ _ _ h => h) (AllIn.mem ⟨gM 0 rfl, gM 1 rfl, trivial⟩) hw) (q_indexAddr Sl_100 rfl rfl ph1_0 hx3) rfl <| mq 9 rfl (by kernel_rfl) (fun w1 hw => Kn.of (fun _ _ _ h => h) (AllIn.mem ⟨gM 0 rfl, gM 1 rfl, trivial⟩) hw) (q_fieldAddr Fld_169_1 rfl) rfl <| mq 10 rfl (by kernel_rfl) (fun w1 hw => Kn.of (fun _ _ _ h => h) (AllIn.mem ⟨gM 0 rfl, gM 1 rfl, trivial⟩) hw) (q_loadN Tn_40 rfl (fun w1 hw => hw.rg (List.mem_append.2 (.inr hb3)) (g3.of_eq 1 2 rfl rfl : rg _ _ _ [.string x3.F.Kind, v3])) rfl) rfl ?_
   refine mq 11 rfl (by kernel_rfl) (fun w1 hw => Kn.of (fun _ _ _ h => h) (AllIn.mem ⟨gM 0 rfl, gM 1 rfl, trivial⟩) hw) (q_move rfl) rfl ?_
   obtain ⟨x4, hx4, h⟩ := bind_some h
   refine WM.one 12 (by kernel_rfl) (mc rfl (fun _ v Φx D w1 hq hw => Kn.of (fun k hk o ho => hq.2.1 k o ((Dj.app (hq.1.o pa0_0) (hq.1.o pa1_0)) k hk) ((fun _ _ _ h => h) k hk o ho)) (AllIn.mem ⟨gM 0 rfl, gM 1 rfl, trivial⟩) hw) (k_call (js := []) (R := []) Fun_133 rfl rfl (fun w1 hw ap hl => m_s_MatchPat_ok hw.fro N x2 x3.F p2 h2 h3 ph2  hx4)) rfl (fun v4 Φ_3 F4 q1 => ?_))
   obtain ⟨ap1, fr1, v5, rfl, rfl, h4⟩ := q1
   replace ph2 := ph2.frame RTBind.lasts fr1 (ap1.o pa2)
   replace ph0_0 := ph0_0.frame RTPat.lasts fr1 (ap1.o pa0_0)
   replace ph0_1 := ph0_1.frame RTCond.lasts fr1 (ap1.o pa0_1)
   replace ph0_2 := ph0_2.frame RTAct.lasts fr1 (ap1.o pa0_2)
   replace ph1_0 := ph1_0.frame RTItem.lasts fr1 (ap1.o pa1_0)
   refine mq 13 rfl (by kernel_rfl) (fun w1 hw => Kn.of (fun k hk o ho => fr1 k o ((Dj.app (ap1.o pa0_0) (ap1.o pa1_0)) k hk) ((fun _ _ _ h => h) k hk o ho)) (AllIn.mem ⟨gM 0 rfl, gM 1 rfl, trivial⟩) hw) (q_move rfl) rfl <| mq 14 rfl (by kernel_rfl) (fun w1 hw => Kn.of (fun k hk o ho => fr1 k o ((Dj.app (ap1.o pa0_0) (ap1.o pa1_0)) k hk) ((fun _ _ _ h => h) k hk o ho)) (AllIn.mem ⟨gM 0 rfl, gM 1 rfl, trivial⟩) hw) (q_extract rfl rfl) rfl ?_
   refine mq 15 rfl (by kernel_rfl) (fun w1 hw => Kn.of (fun k hk o ho => fr1 k o ((Dj.app (ap1.o pa0_0) (ap1.o pa1_0)) k hk) ((fun _ _ _ h => h) k hk o ho)) (AllIn.mem ⟨gM 0 rfl, gM 1 rfl, trivial⟩) hw) (q_extract rfl rfl) rfl <| mq 16 rfl (by kernel_rfl) (fun w1 hw => Kn.of (fun k hk o ho => fr1 k o ((Dj.app (ap1.o pa0_0) (ap1.o pa1_0)) k hk) ((fun _ _ _ h => h) k hk o ho)) (AllIn.mem ⟨gM 0 rfl, gM 1 rfl, trivial⟩) hw) (q_assign rfl) rfl ?_
   refine mq 17 rfl (by kernel_rfl) (fun w1 hw => Kn.of (fun k hk o ho => fr1 k o ((Dj.app (ap1.o pa0_0) (ap1.o pa1_0)) k hk) ((fun _ _ _ h => h) k hk o ho)) (AllIn.mem ⟨gM 0 rfl, gM 1 rfl, trivial⟩) hw) (q_assign rfl) rfl <| WM.nil (by kernel_rfl) <| WT.seq <| WT.region <| lq (q_move rfl) rfl <| WL.nil ?_
   refine WT.cond rfl (fun c4 => ?_) (fun c4 => ?_)
   ·replace h := ite_t h c4
    refine WT.seq <| WT.region <| lq (q_assign rfl) rfl <| WL.nil ?_
    refine WT.ret Try.func57 (resOk.one rfl) (fun w1 hw => ?_)
    subst hb0
    cases h
    exact post_of_St hw
   replace h := ite_f h c4
   refine WT.skip <| WT.inBlock <| WT.region <| lq (q_move rfl) rfl <| lq (q_add rfl rfl) rfl <| lq (q_assign rfl) rfl <| WL.nil ?_
   refine WT.inLoop (WT.mono (l' := [(2, pv2), (3, .pointer (some ⟨b_1, 0, none⟩)), (4, .pointer (some ⟨b_2, 0, none⟩)), (7, .int .i64 s1), (8, .int .i64 (IntKind.i64.wrap (s2 + 1)))]) (S' := St w0 Φ_3 [(b_2, .cells #[pv1_0, .int .i64 p1.Next] 102 (0, 0)), (b_1, .cells #[.string p0.Name, .int .i64 p0.Sal, pv0_0, pv0_1, pv0_2] 66 (0, 0))] []) ⟨rfl, rfl, rfl, rfl, rfl, trivial⟩ (fun w1 hw => (hw.sel (js := []) rfl).selO (js := [0, 0]) rfl) ?_)
   exact ih2 (Φ_3, IntKind.i64.wrap (s2 + 1)) ⟨h, ph2, ph0_0, ph0_1, ph0_2, ph1_0⟩
  replace h := ite_f h c3
  refine WT.exit rfl <| WT.inBlock <| WT.region <| lq (q_move rfl) rfl <| lq (q_add rfl rfl) rfl <| lq (q_assign rfl) rfl <| WL.nil ?_
  refine WT.inLoop (WT.mono (l' := [(2, pv2), (3, .pointer (some ⟨b_1, 0, none⟩)), (4, .pointer (some ⟨b_2, 0, none⟩)), (7, .int .i64 (IntKind.i64.wrap (s1 + 1)))]) (S' := St w0 Φ_2 [(b_2, .cells #[pv1_0, .int .i64 p1.Next] 102 (0, 0)), (b_1, .cells #[.string p0.Name, .int .i64 p0.Sal, pv0_0, pv0_1, pv0_2] 66 (0, 0))] []) ⟨rfl, rfl, rfl, rfl, trivial⟩ (fun w1 hw => (hw.sel (js := []) rfl).selO (js := [0, 0]) rfl) ?_)
  exact ih1 (Φ_2, IntKind.i64.wrap (s1 + 1)) ⟨h, ph2, ph0_0, ph0_1, ph0_2, ph1_0⟩
 replace h := ite_f h c1
 refine WT.exit rfl <| WT.seq <| WT.region <| lq (q_assign rfl) rfl <| WL.nil ?_
 refine WT.ret Try.func57 (resOk.one rfl) (fun w1 hw => ?_)
 subst hb0
 cases h
 exact post_of_St hw
theorem m_l_FnBlocked_ok {Φ : Hp} {w : World} (hΦ : In Φ w) (N : Nat) (p0 : (List Int)) {pv0 : Value} {pG0 : List Nat} (ph0 : RSl (RI .u8) 1 Φ pG0 pv0 p0) {r : Bool} (h : m_l_FnBlocked N p0 = some r) :
  Calls Try.prog 9 [pv0].toArray w (Post (.bool r) w) := by
 refine enter Try.func9 rfl Try.ntmps9 rfl (St.start0 hΦ) ?_
 generalize hb0 : (⟨w, [], Φ⟩ : Base) = w0
 unfold m_l_FnBlocked at h
 refine WT.seq <| WT.region <| lq (q_assign rfl) rfl <| WL.nil <| WT.seq <| WT.seq <| WT.region <| lq (q_move rfl) rfl ?_
 obtain ⟨x1, hx1, h⟩ := bind_some h
 refine lp (p_call Fun_12 rfl (fun w1 hw => m_l_big_ok hw.fro N p0 ph0 hx1)) rfl <| WL.nil ?_
 refine WT.cond rfl (fun c1 => ?_) (fun c1 => ?_)
 ·replace h := ite_t h c1
  refine WT.seq <| WT.region <| lq (q_assign rfl) rfl <| WL.nil ?_
  refine WT.ret Try.func9 (resOk.one rfl) (fun w1 hw => ?_)
  subst hb0
  cases h
  exact post_of_St hw
 replace h := ite_f h c1
 refine WT.skip <| WT.seq <| WT.region <| lq (q_move rfl) rfl ?_
 obtain ⟨x2, hx2, h⟩ := bind_some h
 refine lc (k_call (js := []) (R := []) Fun_55 rfl rfl (fun w1 hw ap hl => m_s_DrawBlocked_ok hw.fro N p0 ph0  hx2)) rfl (fun v1 Φ_1 F1 q1 => ?_)
 obtain ⟨ap1, fr1, v2, D1, v3, v4, D2, v5, D3, v6, X1, rfl, rfl, h1, h2, h3, h4, i1, h5⟩ := q1
 refine lq (q_move rfl) rfl <| lq (q_extract rfl rfl) rfl <| lq (q_extract rfl rfl) rfl <| lq (q_extract rfl rfl) rfl ?_
 refine ln (n_alloc (C := #[.string (⟨#[]⟩ : ByteArray), .int .i64 0, .slice none 0 0, .slice none 0 0, .slice none 0 0]) Zr_66 rfl) rfl (fun b_1 => ?_)
 refine ln (n_alloc (C := #[.slice none 0 0, .int .i64 0]) Zr_102 rfl) rfl (fun b_2 => ?_)
 refine ls (s_store (i := 1) (vs := [.string x2.1.Name, .int .i64 x2.1.Sal, v2, v3, v4]) (C' := [.string x2.1.Name, .int .i64 x2.1.Sal, v2, v3, v4]) (O' := [(b_2, .cells #[.slice none 0 0, .int .i64 0] 102 (0, 0)), (b_1, .cells #[.string x2.1.Name, .int .i64 x2.1.Sal, v2, v3, v4] 66 (0, 0))]) Sz_66 rfl rfl rfl rfl rfl rfl ⟨rfl, rfl, h1.one, h2.one, h3.one, trivial⟩ rfl rfl) rfl <| ls (s_store (i := 0) (vs := [v5, .int .i64 x2.2.1.Next]) (C' := [v5, .int .i64 x2.2.1.Next]) (O' := [(b_2, .cells #[v5, .int .i64 x2.2.1.Next] 102 (0, 0)), (b_1, .cells #[.string x2.1.Name, .int .i64 x2.1.Sal, v2, v3, v4] 66 (0, 0))]) Sz_102 rfl rfl rfl rfl rfl rfl ⟨h4.one, rfl, trivial⟩ rfl rfl) rfl ?_
 refine lq (q_assign rfl) rfl <| WL.nil <| WT.seq <| WT.region <| lq (q_loadN Tn_66 rfl (fun w1 hw => hw.rgO (i := 1) rfl 0 5 [.string x2.1.Name, .int .i64 x2.1.Sal, v2, v3, v4] rfl) rfl) rfl <| lq (q_loadN Tn_102 rfl (fun w1 hw => hw.rgO (i := 0) rfl 0 2 [v5, .int .i64 x2.2.1.Next] rfl) rfl) rfl <| lq (q_move rfl) rfl ?_
 obtain ⟨x4, hx3, h⟩ := bind_some h
 refine lp (p_call Fun_56 rfl (fun w1 hw => m_i_Blocked_ok hw.fro N x2.1 x2.2.1 x2.2.2 (h1.rslG OTPat.gives) h2.rsl (h3.rslG OTAct.gives) h4.rsl h5.rsl hx3)) rfl <| lq (q_assign rfl) rfl <| WL.nil <| WT.seq <| WT.seq <| WT.region <| lq (q_move rfl) rfl <| lq (q_loadN Tn_66 rfl (fun w1 hw => hw.rgO (i := 1) rfl 0 5 [.string x2.1.Name, .int .i64 x2.1.Sal, v2, v3, v4] rfl) rfl) rfl <| lq (q_loadN Tn_102 rfl (fun w1 hw => hw.rgO (i := 0) rfl 0 2 [v5, .int .i64 x2.2.1.Next] rfl) rfl) rfl ?_
 refine lq (q_move rfl) rfl ?_
 obtain ⟨x5, hx4, h⟩ := bind_some h
 refine lp (p_call Fun_57 rfl (fun w1 hw => m_s_Blocked_ok hw.fro N x2.1 x2.2.1 x2.2.2 (h1.rslG OTPat.gives) h2.rsl (h3.rslG OTAct.gives) h4.rsl h5.rsl hx4)) rfl <| lq (q_bne Bo_4 rfl rfl) rfl <| WL.nil ?_
 refine WT.cond rfl (fun c2 => ?_) (fun c2 => ?_)
 ·replace h := ite_t h c2
  refine WT.seq <| WT.region <| lq (q_assign rfl) rfl <| WL.nil ?_
  refine WT.ret Try.func9 (resOk.one rfl) (fun w1 hw => ?_)
  subst hb0
  cases h
  exact post_of_St hw
 replace h := ite_f h c2
 refine WT.skip <| WT.seq <| WT.seq <| WT.region <| lq (q_assign rfl) rfl <| WL.nil <| WT.block <| WT.loop <| WT.mono (l' := [(3, .pointer (some ⟨b_1, 0, none⟩)), (4, .pointer (some ⟨b_2, 0, none⟩)), (5, v6), (6, .bool x4), (7, .int .i64 0)]) (S' := St w0 Φ_1 [(b_2, .cells #[v5, .int .i64 x2.2.1.Next] 102 (0, 0)), (b_1, .cells #[.string x2.1.Name, .int .i64 x2.1.Sal, v2, v3, v4] 66 (0, 0))] [ob v2, D1, ob v3, ob v4, D2, ob v5, ob v6, X1]) ⟨rfl, rfl, rfl, rfl, rfl, trivial⟩ (fun w1 hw => (hw.sel (js := [0, 0, 0, 0, 0, 0, 0, 0]) rfl).selO (js := [0, 0]) rfl) ?_
 refine loop_ind (σ := Int) (fun s => [(3, .pointer (some ⟨b_1, 0, none⟩)), (4, .pointer (some ⟨b_2, 0, none⟩)), (5, v6), (6, .bool x4), (7, .int .i64 s)]) (fun s => St w0 Φ_1 [(b_2, .cells #[v5, .int .i64 x2.2.1.Next] 102 (0, 0)), (b_1, .cells #[.string x2.1.Name, .int .i64 x2.1.Sal, v2, v3, v4] 66 (0, 0))] [ob v2, D1, ob v3, ob v4, D2, ob v5, ob v6, X1]) (fun m s => m_l_FnBlocked_l1 N x2 x4 m s = some r) (fun s hm => none_ne (show (none : Option (Bool)) = some r from hm)) (fun n1 ih1 s hm => ?_) N (0) h
 revert hm; revert s; intro s1 hm
 have h : m_l_FnBlocked_l1 N x2 x4 (n1 + 1) s1 = some r := hm
 show WT _ _ [(3, .pointer (some ⟨b_1, 0, none⟩)), (4, .pointer (some ⟨b_2, 0, none⟩)), (5, v6), (6, .bool x4), (7, .int .i64 s1)] (St w0 Φ_1 [(b_2, .cells #[v5, .int .i64 x2.2.1.Next] 102 (0, 0)), (b_1, .cells #[.string x2.1.Name, .int .i64 x2.1.Sal, v2, v3, v4] 66 (0, 0))] [ob v2, D1, ob v3, ob v4, D2, ob v5, ob v6, X1])
 unfold m_l_FnBlocked_l1 at h
 refine WT.seq <| WT.seq <| WT.region <| lq (q_move rfl) rfl <| lq (q_fieldAddr Fld_102_0 rfl) rfl <| lq (q_load1 T1_100 rfl (fun w1 hw => hw.rgO (i := 0) rfl 0 1 [v5] rfl)) rfl <| lq (q_lenR Sl_100 rfl rfl h4.rsl) rfl <| lq (q_lss rfl rfl) rfl <| WL.nil ?_
 refine WT.cond rfl (fun c3 => ?_) (fun c3 => ?_)
 ·replace h := ite_t h c3
  refine WT.skip <| WT.seq <| WT.block <| WT.seq <| WT.draw mixed (by kernel_rfl) (fun _ h => h.drew) <| qq (q_loadN Tn_66 rfl (fun w1 hw => hw.rgO (i := 1) rfl 0 5 [.string x2.1.Name, .int .i64 x2.1.Sal, v2, v3, v4] rfl) rfl) rfl <| qq (q_fieldAddr Fld_102_0 rfl) rfl <| qq (q_load1 T1_100 rfl (fun w1 hw => hw.rgO (i := 0) rfl 0 1 [v5] rfl)) rfl <| qq (q_move rfl) rfl ?_
  obtain ⟨x6, hx5, h⟩ := bind_some h
  refine qq (q_slH Sl_100 rfl rfl h4.rsl hx5) rfl ?_
  obtain ⟨F2, h6, hs1⟩ := h4.rsl.sub hx5
  refine qq (q_fieldAddr Fld_102_1 rfl) rfl <| qq (q_load1 T1_3 rfl (fun w1 hw => hw.rgO (i := 0) rfl 1 1 [.int .i64 x2.2.1.Next] rfl)) rfl <| qq (q_build (vs := [(0, (slc v5 (0 : Int).toNat s1.toNat 3)), (1, .int .i64 x2.2.1.Next)]) (C := #[(slc v5 (0 : Int).toNat s1.toNat 3), .int .i64 x2.2.1.Next]) Pl_102 Zr_102 rfl (fill_cons (cells := [.slice none 0 0, .int .i64 0]) (c := [(slc v5 (0 : Int).toNat s1.toNat 3)]) (C' := [(slc v5 (0 : Int).toNat s1.toNat 3), .int .i64 0]) rfl (one_cells h6.one) rfl rfl rfl (fill_cons (cells := [(slc v5 (0 : Int).toNat s1.toNat 3), .int .i64 0]) (c := [.int .i64 x2.2.1.Next]) (C' := [(slc v5 (0 : Int).toNat s1.toNat 3), .int .i64 x2.2.1.Next]) rfl rfl rfl rfl rfl (fill_nil)))) rfl ?_
  refine qq (q_move rfl) rfl ?_
  obtain ⟨x7, hx6, h⟩ := bind_some h
  refine qp (p_call Fun_56 rfl (fun w1 hw => m_i_Blocked_ok hw.fro N x2.1 (⟨x6, x2.2.1.Next⟩ : TStore) x2.2.2 (h1.rslG OTPat.gives) h2.rsl (h3.rslG OTAct.gives) h6 h5.rsl hx6)) rfl <| qq (q_move rfl) rfl ?_
  obtain ⟨b1, hb_1, h⟩ := bind_some h
  refine WQ.cutN 3 [(46, .bool b1), (3, .pointer (some ⟨b_1, 0, none⟩)), (4, .pointer (some ⟨b_2, 0, none⟩)), (5, v6), (6, .bool x4), (7, .int .i64 s1)] ?_ (fun K => ?_)
  rotate_left
  ·refine WQ.split (d := 43) rfl (fun c4 => ?_) (fun c4 => ?_)
   ·replace hb_1 := ite_t hb_1 c4
    refine WQ.yes rfl rfl <| qq (q_move rfl) rfl <| WQ.yes rfl rfl <| qq (q_not rfl) rfl <| WQ.q (q_pick1 rfl rfl) rfl rfl rfl ?_
    cases hb_1
    exact WQ.keep (by exact ⟨rfl, rfl, rfl, rfl, rfl, rfl, trivial⟩) K
   ·replace hb_1 := ite_f hb_1 c4
    refine WQ.no rfl rfl rfl rfl <| WQ.no rfl rfl rfl rfl <| WQ.q (q_pick0 rfl rfl) rfl rfl rfl ?_
    cases hb_1
    exact WQ.keep (by exact ⟨rfl, rfl, rfl, rfl, rfl, rfl, trivial⟩) K
  refine WQ.nil ?_
  refine WT.cond rfl (fun c5 => ?_) (fun c5 => ?_)
  ·replace h := ite_t h c5
   refine WT.seq <| WT.region <| lq (q_assign rfl) rfl <| WL.nil ?_
   refine WT.ret Try.func9 (resOk.one rfl) (fun w1 hw => ?_)
   subst hb0
   cases h
   exact post_of_St hw
  replace h := ite_f h c5
  refine WT.skip <| WT.inBlock <| WT.region <| lq (q_move rfl) rfl <| lq (q_add rfl rfl) rfl <| lq (q_assign rfl) rfl <| WL.nil ?_
  refine WT.inLoop (WT.mono (l' := [(3, .pointer (some ⟨b_1, 0, none⟩)), (4, .pointer (some ⟨b_2, 0, none⟩)), (5, v6), (6, .bool x4), (7, .int .i64 (IntKind.i64.wrap (s1 + 1)))]) (S' := St w0 Φ_1 [(b_2, .cells #[v5, .int .i64 x2.2.1.Next] 102 (0, 0)), (b_1, .cells #[.string x2.1.Name, .int .i64 x2.1.Sal, v2, v3, v4] 66 (0, 0))] [ob v2, D1, ob v3, ob v4, D2, ob v5, ob v6, X1]) ⟨rfl, rfl, rfl, rfl, rfl, trivial⟩ (fun w1 hw => (hw.sel (js := [0, 0, 0, 0, 0, 0, 0, 0]) rfl).selO (js := [0, 0]) rfl) ?_)
  exact ih1 (IntKind.i64.wrap (s1 + 1)) h
 replace h := ite_f h c3
 refine WT.exit rfl <| WT.seq <| WT.region <| lq (q_loadN Tn_66 rfl (fun w1 hw => hw.rgO (i := 1) rfl 0 5 [.string x2.1.Name, .int .i64 x2.1.Sal, v2, v3, v4] rfl) rfl) rfl <| lq (q_build (vs := [(1, .int .i64 1)]) (C := #[.slice none 0 0, .int .i64 1]) Pl_102 Zr_102 rfl (fill_cons (cells := [.slice none 0 0, .int .i64 0]) (c := [.int .i64 1]) (C' := [.slice none 0 0, .int .i64 1]) rfl rfl rfl rfl rfl (fill_nil))) rfl <| lq (q_move rfl) rfl ?_
 obtain ⟨x8, hx7, h⟩ := bind_some h
 refine lp (p_call Fun_56 rfl (fun w1 hw => m_i_Blocked_ok hw.fro N x2.1 (⟨[], 1⟩ : TStore) x2.2.2 (h1.rslG OTPat.gives) h2.rsl (h3.rslG OTAct.gives) (RSl.nil _ _ _) h5.rsl hx7)) rfl <| lq (q_not rfl) rfl <| lq (q_assign rfl) rfl <| WL.nil ?_
 refine WT.ret Try.func9 (resOk.one rfl) (fun w1 hw => ?_)
 subst hb0
 cases h
 exact post_of_St hw
end Go.Proofs.Ytmhckcoabhahpaa
