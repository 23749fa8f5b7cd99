/- Printed by a program of ours: each Go function computes its Lean function. -/
import Derived.Test.YtjhlmnbkfdkmpaaProg
import Derived.Test.YtjhlmnbkfdkmpaaWExactBlockedWalk1
namespace Go.Proofs.Ytjhlmnbkfdkmpaa
open Eng
open Go.RowKit (Below)
set_option linter.unusedVariables false
set_option linter.unusedSimpArgs false

set_option maxRecDepth 100000
set_option maxHeartbeats 1000000
theorem m_s_MatchPat_ok {Φ : Hp} {w : World} (hΦ : In Φ w) (N : Nat) (p0 : TPat) (p1 : TFact) (p2 : (List TBind)) {pv0_0 : Value} {pG0_0 : List Nat} {pv1_0 : Value} {pG1_0 : List Nat} {pv2 : Value} {pG2 : List Nat} (ph0_0 : RSl RTArg 5 Φ pG0_0 pv0_0 p0.Args) (ph1_0 : RSl RTVal 3 Φ pG1_0 pv1_0 p1.Fields) (ph2 : RSl RTBind 4 Φ pG2 pv2 p2) {r : (List TBind) × Bool} (h : m_s_MatchPat N p0 p1 p2 = some r) :
    Calls Try.prog 128 [.agg [.string p0.Kind, pv0_0, .bool p0.Not].toArray, .agg [.string p1.Kind, pv1_0].toArray, pv2].toArray w (PostG Φ w [] (fun Φ' Fs v => ∃ (sr_0_0 : Value), v = .tuple #[sr_0_0, .bool r.2] ∧ Fs = [ob sr_0_0] ∧ OSl RTBind 194 4 Φ' [] sr_0_0 r.1)) := by
  refine enter Try.func128 rfl Try.ntmps128 rfl (St.start0 hΦ) ?_
  have pa0_0 : Old ⟨w, [], Φ⟩ pG0_0 := Old.mk hΦ ph0_0.kn (Dj.empty _)
  have pa1_0 : Old ⟨w, [], Φ⟩ pG1_0 := Old.mk hΦ ph1_0.kn (Dj.empty _)
  have pa2 : Old ⟨w, [], Φ⟩ pG2 := Old.mk hΦ ph2.kn (Dj.empty _)
  revert pa0_0 pa1_0 pa2
  generalize hb0 : (⟨w, [], Φ⟩ : Base) = w0
  intro pa0_0 pa1_0 pa2
  unfold m_s_MatchPat at h
  refine WT.seq ?_
  refine WT.region ?_
  refine ln (n_box (C := #[.string p0.Kind, pv0_0, .bool p0.Not]) rfl rfl) rfl (fun b_1 => ?_)
  refine ln (n_box (C := #[.string p1.Kind, pv1_0]) rfl rfl) rfl (fun b_2 => ?_)
  refine lq (q_assign rfl) rfl ?_
  refine lq (q_assign rfl) rfl ?_
  refine WL.nil ?_
  refine WT.seq ?_
  refine WT.region ?_
  have rc1 : RC RTBind 4 Φ ([] : List (List Nat)) [] ([] : List TBind) := RC.nil _ _ _
  refine le' (e_lit (vs := []) (C := #[]) RTBind.lasts Sl_79 Zr_194 rfl rfl rfl rfl (fill_made MC_194_0 (fill_nil)) rfl rc1 rfl (by simpa using Kw.nil)) rfl (fun v1 Φ_1 D1 q1 => ?_)
  obtain ⟨fr1, h1⟩ := q1
  replace h1 : OSl RTBind 194 4 Φ_1 [] v1 ([] : List TBind) := by simpa using h1
  replace ph2 := ph2.frame RTBind.lasts fr1 (Dj.empty _)
  replace ph0_0 := ph0_0.frame RTArg.lasts fr1 (Dj.empty _)
  replace ph1_0 := ph1_0.frame RTVal.lasts fr1 (Dj.empty _)
  refine lq (q_move rfl) rfl ?_
  obtain ⟨x1, hx1, h⟩ := bind_some h
  refine le' (e_appF RTBind.lasts RTBind.one RTBind.flat Sl_79 Ei_194 rfl rfl rfl rfl rfl (js := [0]) (Rr := []) rfl h1 ph2 hx1) rfl (fun v2 Φ_2 D2 q2 => ?_)
  obtain ⟨⟨ap1, fr2⟩, h2⟩ := q2
  replace ph2 := ph2.frame RTBind.lasts fr2 (ap1.o pa2)
  replace ph0_0 := ph0_0.frame RTArg.lasts fr2 (ap1.o pa0_0)
  replace ph1_0 := ph1_0.frame RTVal.lasts fr2 (ap1.o pa1_0)
  refine lq (q_assign rfl) rfl ?_
  refine WL.nil ?_
  refine WT.seq ?_
  refine WT.seq ?_
  refine WT.region ?_
  refine lq (q_fieldAddr Fld_121_0 rfl) rfl ?_
  refine lq (q_load1 T1_9 rfl (fun w1 hw => hw.rgO (i := 1) rfl 0 1 [.string p0.Kind] rfl)) rfl ?_
  refine lq (q_fieldAddr Fld_188_0 rfl) rfl ?_
  refine lq (q_load1 T1_9 rfl (fun w1 hw => hw.rgO (i := 0) rfl 0 1 [.string p1.Kind] rfl)) rfl ?_
  refine lq (q_sne rfl rfl) rfl ?_
  refine lq (q_move rfl) rfl ?_
  obtain ⟨b1, hb_1, h⟩ := bind_some h
  refine WL.cutN 8 [(29, .bool b1), (2, pv2), (3, .pointer (some ⟨b_1, 0, none⟩)), (4, .pointer (some ⟨b_2, 0, none⟩)), (8, v2)] ?_ (fun K => ?_)
  rotate_left
  · refine WL.split (d := 21) rfl (fun c1 => ?_) (fun c1 => ?_)
    · replace hb_1 := ite_t hb_1 c1
      refine WL.no rfl rfl rfl rfl ?_
      refine WL.no rfl rfl rfl rfl ?_
      refine WL.no rfl rfl rfl rfl ?_
      refine WL.no rfl rfl rfl rfl ?_
      refine WL.no rfl rfl rfl rfl ?_
      refine WL.no rfl rfl rfl rfl ?_
      refine WL.no rfl rfl rfl rfl ?_
      refine WL.q (q_pick1 rfl rfl) rfl rfl rfl ?_
      cases hb_1
      exact WL.keep (by exact ⟨rfl, rfl, rfl, rfl, rfl, trivial⟩) K
    · replace hb_1 := ite_f hb_1 c1
      refine WL.yes rfl rfl ?_
      refine lq (q_fieldAddr Fld_121_1 rfl) rfl ?_
      refine WL.yes rfl rfl ?_
      refine lq (q_load1 T1_119 rfl (fun w1 hw => hw.rgO (i := 1) rfl 1 1 [pv0_0] rfl)) rfl ?_
      refine WL.yes rfl rfl ?_
      refine lq (q_lenR Sl_119 rfl rfl ph0_0) rfl ?_
      refine WL.yes rfl rfl ?_
      refine lq (q_fieldAddr Fld_188_1 rfl) rfl ?_
      refine WL.yes rfl rfl ?_
      refine lq (q_load1 T1_112 rfl (fun w1 hw => hw.rgO (i := 0) rfl 1 1 [pv1_0] rfl)) rfl ?_
      refine WL.yes rfl rfl ?_
      refine lq (q_lenR Sl_112 rfl rfl ph1_0) rfl ?_
      refine WL.yes rfl rfl ?_
      refine lq (q_neq rfl rfl) rfl ?_
      refine WL.q (q_pick0 rfl rfl) rfl rfl rfl ?_
      cases hb_1
      exact WL.keep (by exact ⟨rfl, rfl, rfl, rfl, rfl, trivial⟩) K
  refine WL.nil ?_
  refine WT.cond rfl (fun c2 => ?_) (fun c2 => ?_)
  · replace h := ite_t h c2
    refine WT.seq ?_
    refine WT.region ?_
    refine lq (q_move rfl) rfl ?_
    refine lq (q_assign rfl) rfl ?_
    refine lq (q_assign rfl) rfl ?_
    refine WL.nil ?_
    refine WT.ret Try.func128 (resOk.two rfl rfl) (fun w1 hw => ?_)
    subst hb0
    cases h
    refine postG_of_St (js := [0]) hw rfl ⟨v2, rfl, rfl, h2⟩
  replace h := ite_f h c2
  refine WT.skip ?_
  refine WT.seq ?_
  refine WT.seq ?_
  refine WT.region ?_
  refine lq (q_assign rfl) rfl ?_
  refine WL.nil ?_
  refine WT.block ?_
  refine WT.loop ?_
  refine WT.mono (l' := [(2, pv2), (3, .pointer (some ⟨b_1, 0, none⟩)), (4, .pointer (some ⟨b_2, 0, none⟩)), (8, v2), (9, .int .i64 0)]) (S' := St w0 Φ_2 [(b_2, .cells #[.string p1.Kind, pv1_0] 188 (0, 0)), (b_1, .cells #[.string p0.Kind, pv0_0, .bool p0.Not] 121 (0, 0))] [ob v2]) ⟨rfl, rfl, rfl, rfl, rfl, trivial⟩ (fun w1 hw => (hw.sel (js := [0]) rfl).selO (js := [0, 0]) rfl) ?_
  refine loop_ind (σ := Hp × (List TBind) × Value × Int) (fun s => [(2, pv2), (3, .pointer (some ⟨b_1, 0, none⟩)), (4, .pointer (some ⟨b_2, 0, none⟩)), (8, s.2.2.1), (9, .int .i64 s.2.2.2)]) (fun s => St w0 s.1 [(b_2, .cells #[.string p1.Kind, pv1_0] 188 (0, 0)), (b_1, .cells #[.string p0.Kind, pv0_0, .bool p0.Not] 121 (0, 0))] [ob s.2.2.1]) (fun m s => m_s_MatchPat_l1 N p0 p1 p2 m s.2.1 s.2.2.2 = some r ∧ (OSl RTBind 194 4 s.1 [] s.2.2.1 s.2.1) ∧ (RSl RTBind 4 s.1 pG2 pv2 p2) ∧ (RSl RTArg 5 s.1 pG0_0 pv0_0 p0.Args) ∧ (RSl RTVal 3 s.1 pG1_0 pv1_0 p1.Fields)) (fun s hm => none_ne (show (none : Option ((List TBind) × Bool)) = some r from hm.1)) (fun n1 ih1 s hm => ?_) N (Φ_2, x1, v2, 0) ⟨h, h2, ph2, ph0_0, ph1_0⟩
  obtain ⟨Φ_3, s1, u1, s2⟩ := s
  obtain ⟨h, k1, ph2, ph0_0, ph1_0⟩ := hm
  replace h : m_s_MatchPat_l1 N p0 p1 p2 (n1 + 1) s1 s2 = some r := h
  replace k1 : OSl RTBind 194 4 Φ_3 [] u1 s1 := k1
  replace ph2 : RSl RTBind 4 Φ_3 pG2 pv2 p2 := ph2
  replace ph0_0 : RSl RTArg 5 Φ_3 pG0_0 pv0_0 p0.Args := ph0_0
  replace ph1_0 : RSl RTVal 3 Φ_3 pG1_0 pv1_0 p1.Fields := ph1_0
  show WT _ _ [(2, pv2), (3, .pointer (some ⟨b_1, 0, none⟩)), (4, .pointer (some ⟨b_2, 0, none⟩)), (8, u1), (9, .int .i64 s2)] (St w0 Φ_3 [(b_2, .cells #[.string p1.Kind, pv1_0] 188 (0, 0)), (b_1, .cells #[.string p0.Kind, pv0_0, .bool p0.Not] 121 (0, 0))] [ob u1])
  unfold m_s_MatchPat_l1 at h
  refine WT.seq ?_
  refine WT.seq ?_
  refine WT.region ?_
  refine lq (q_move rfl) rfl ?_
  refine lq (q_fieldAddr Fld_121_1 rfl) rfl ?_
  refine lq (q_load1 T1_119 rfl (fun w1 hw => hw.rgO (i := 1) rfl 1 1 [pv0_0] rfl)) rfl ?_
  refine lq (q_lenR Sl_119 rfl rfl ph0_0) rfl ?_
  refine lq (q_lss rfl rfl) rfl ?_
  refine WL.nil ?_
  refine WT.cond rfl (fun c3 => ?_) (fun c3 => ?_)
  · replace h := ite_t h c3
    refine WT.skip ?_
    refine WT.seq ?_
    refine WT.block ?_
    refine WT.seq ?_
    refine WT.region ?_
    refine lq (q_fieldAddr Fld_121_1 rfl) rfl ?_
    refine lq (q_load1 T1_119 rfl (fun w1 hw => hw.rgO (i := 1) rfl 1 1 [pv0_0] rfl)) rfl ?_
    refine lq (q_move rfl) rfl ?_
    obtain ⟨x2, hx2, h⟩ := bind_some h
    obtain ⟨cs1, F1, -, g1, hb1, hs1, r1⟩ := ph0_0.el (idx_some hx2).2.2
    obtain ⟨rfl, -⟩ := r1
    refine lq (q_indexAddr Sl_119 rfl rfl ph0_0 hx2) rfl ?_
    refine lq (q_loadN Tn_206 rfl (fun w1 hw => (g1.of_eq 0 5 rfl rfl : rg _ _ _ [.int .i64 x2.K, .string x2.S, .int .i64 x2.V.K, .int .i64 x2.V.N, .string x2.V.S]).rangeAt hw.fro) rfl) rfl ?_
    refine ln (n_alloc (C := #[.int .i64 0, .string (⟨#[]⟩ : ByteArray), .int .i64 0, .int .i64 0, .string (⟨#[]⟩ : ByteArray)]) Zr_206 rfl) rfl (fun b_3 => ?_)
    refine ls (s_store (i := 0) (vs := [.int .i64 x2.K, .string x2.S, .int .i64 x2.V.K, .int .i64 x2.V.N, .string x2.V.S]) (C' := [.int .i64 x2.K, .string x2.S, .int .i64 x2.V.K, .int .i64 x2.V.N, .string x2.V.S]) (O' := [(b_3, .cells #[.int .i64 x2.K, .string x2.S, .int .i64 x2.V.K, .int .i64 x2.V.N, .string x2.V.S] 206 (0, 0)), (b_2, .cells #[.string p1.Kind, pv1_0] 188 (0, 0)), (b_1, .cells #[.string p0.Kind, pv0_0, .bool p0.Not] 121 (0, 0))]) Sz_206 rfl rfl rfl rfl rfl rfl ⟨rfl, rfl, rfl, rfl, rfl, trivial⟩ rfl rfl) rfl ?_
    refine WL.nil ?_
    refine WT.seq ?_
    refine WT.region ?_
    refine lq (q_move rfl) rfl ?_
    refine lq (q_fieldAddr Fld_206_1 rfl) rfl ?_
    refine lq (q_load1 T1_9 rfl (fun w1 hw => hw.rgO (i := 0) rfl 1 1 [.string x2.S] rfl)) rfl ?_
    obtain ⟨x3, hx3, h⟩ := bind_some h
    refine lp (p_call Fun_200 rfl (fun w1 hw => m_s_BindOf_ok hw.fro N s1 x2.S k1.rsl hx3)) rfl ?_
    refine lq (q_move rfl) rfl ?_
    refine lq (q_extract rfl rfl) rfl ?_
    refine lq (q_extract rfl rfl) rfl ?_
    refine ln (n_alloc (C := #[.int .i64 0, .int .i64 0, .string (⟨#[]⟩ : ByteArray)]) Zr_192 rfl) rfl (fun b_4 => ?_)
    refine ls (s_store (i := 0) (vs := [.int .i64 x3.1.K, .int .i64 x3.1.N, .string x3.1.S]) (C' := [.int .i64 x3.1.K, .int .i64 x3.1.N, .string x3.1.S]) (O' := [(b_4, .cells #[.int .i64 x3.1.K, .int .i64 x3.1.N, .string x3.1.S] 192 (0, 0)), (b_3, .cells #[.int .i64 x2.K, .string x2.S, .int .i64 x2.V.K, .int .i64 x2.V.N, .string x2.V.S] 206 (0, 0)), (b_2, .cells #[.string p1.Kind, pv1_0] 188 (0, 0)), (b_1, .cells #[.string p0.Kind, pv0_0, .bool p0.Not] 121 (0, 0))]) Sz_192 rfl rfl rfl rfl rfl rfl ⟨rfl, rfl, rfl, trivial⟩ rfl rfl) rfl ?_
    refine lq (q_assign rfl) rfl ?_
    refine WL.nil ?_
    refine WT.seq ?_
    refine WT.seq ?_
    refine WT.draw mixed (by kernel_rfl) (fun _ h => h.drew) ?_
    refine qq (q_fieldAddr Fld_206_0 rfl) rfl ?_
    refine qq (q_load1 T1_3 rfl (fun w1 hw => hw.rgO (i := 1) rfl 0 1 [.int .i64 x2.K] rfl)) rfl ?_
    refine qq (q_eql rfl rfl) rfl ?_
    refine qq (q_move rfl) rfl ?_
    obtain ⟨b2, hb_2, h⟩ := bind_some h
    refine WQ.cutN 9 [(62, .bool b2), (2, pv2), (3, .pointer (some ⟨b_1, 0, none⟩)), (4, .pointer (some ⟨b_2, 0, none⟩)), (8, u1), (9, .int .i64 s2), (10, .pointer (some ⟨b_3, 0, none⟩)), (11, .pointer (some ⟨b_4, 0, none⟩)), (12, .bool x3.2)] ?_ (fun K => ?_)
    rotate_left
    · refine WQ.split (d := 53) rfl (fun c4 => ?_) (fun c4 => ?_)
      · replace hb_2 := ite_t hb_2 c4
        refine WQ.yes rfl rfl ?_
        refine qq (q_fieldAddr Fld_206_2 rfl) rfl ?_
        refine WQ.yes rfl rfl ?_
        refine qq (q_loadN Tn_192 rfl (fun w1 hw => hw.rgO (i := 1) rfl 2 3 [.int .i64 x2.V.K, .int .i64 x2.V.N, .string x2.V.S] rfl) rfl) rfl ?_
        refine WQ.yes rfl rfl ?_
        refine qq (q_fieldAddr Fld_188_1 rfl) rfl ?_
        refine WQ.yes rfl rfl ?_
        refine qq (q_load1 T1_112 rfl (fun w1 hw => hw.rgO (i := 2) rfl 1 1 [pv1_0] rfl)) rfl ?_
        refine WQ.yes rfl rfl ?_
        refine qq (q_move rfl) rfl ?_
        refine WQ.yes rfl rfl ?_
        obtain ⟨x4, hx4, hb_2⟩ := bind_some hb_2
        obtain ⟨cs2, F2, -, g2, hb2, hs2, r2⟩ := ph1_0.el (idx_some hx4).2.2
        obtain ⟨rfl, -⟩ := r2
        refine qq (q_indexAddr Sl_112 rfl rfl ph1_0 hx4) rfl ?_
        refine WQ.yes rfl rfl ?_
        refine qq (q_loadN Tn_192 rfl (fun w1 hw => (g2.of_eq 0 3 rfl rfl : rg _ _ _ [.int .i64 x4.K, .int .i64 x4.N, .string x4.S]).rangeAt hw.fro) rfl) rfl ?_
        refine WQ.yes rfl rfl ?_
        refine qq (q_neA EqT_192 rfl rfl rfl (r := eqT_TVal x2.V x4) rfl) rfl ?_
        refine WQ.q (q_pick1 rfl rfl) rfl rfl rfl ?_
        cases hb_2
        exact WQ.keep (by exact ⟨rfl, rfl, rfl, rfl, rfl, rfl, rfl, rfl, rfl, trivial⟩) K
      · replace hb_2 := ite_f hb_2 c4
        refine WQ.no rfl rfl rfl rfl ?_
        refine WQ.no rfl rfl rfl rfl ?_
        refine WQ.no rfl rfl rfl rfl ?_
        refine WQ.no rfl rfl rfl rfl ?_
        refine WQ.no rfl rfl rfl rfl ?_
        refine WQ.no rfl rfl rfl rfl ?_
        refine WQ.no rfl rfl rfl rfl ?_
        refine WQ.no rfl rfl rfl rfl ?_
        refine WQ.q (q_pick0 rfl rfl) rfl rfl rfl ?_
        cases hb_2
        exact WQ.keep (by exact ⟨rfl, rfl, rfl, rfl, rfl, rfl, rfl, rfl, rfl, trivial⟩) K
    refine qq (q_move rfl) rfl ?_
    obtain ⟨b3, hb_3, h⟩ := bind_some h
    refine WQ.cutN 16 [(79, .bool b3), (2, pv2), (3, .pointer (some ⟨b_1, 0, none⟩)), (4, .pointer (some ⟨b_2, 0, none⟩)), (8, u1), (9, .int .i64 s2), (10, .pointer (some ⟨b_3, 0, none⟩)), (12, .bool x3.2)] ?_ (fun K => ?_)
    rotate_left
    · refine WQ.split (d := 63) rfl (fun c5 => ?_) (fun c5 => ?_)
      · replace hb_3 := ite_t hb_3 c5
        refine WQ.no rfl rfl rfl rfl ?_
        refine WQ.no rfl rfl rfl rfl ?_
        refine WQ.no rfl rfl rfl rfl ?_
        refine WQ.no rfl rfl rfl rfl ?_
        refine WQ.nox rfl rfl rfl rfl ?_
        refine WQ.no rfl rfl rfl rfl ?_
        refine WQ.no rfl rfl rfl rfl ?_
        refine WQ.nox rfl rfl rfl rfl ?_
        refine WQ.nox rfl rfl rfl rfl ?_
        refine WQ.nox rfl rfl rfl rfl ?_
        refine WQ.nox rfl rfl rfl rfl ?_
        refine WQ.nox rfl rfl rfl rfl ?_
        refine WQ.nox rfl rfl rfl rfl ?_
        refine WQ.nox rfl rfl rfl rfl ?_
        refine WQ.no rfl rfl rfl rfl ?_
        refine WQ.q (q_pick1 rfl rfl) rfl rfl rfl ?_
        cases hb_3
        exact WQ.keep (by exact ⟨rfl, rfl, rfl, rfl, rfl, rfl, rfl, rfl, trivial⟩) K
      · replace hb_3 := ite_f hb_3 c5
        refine WQ.yes rfl rfl ?_
        refine qq (q_fieldAddr Fld_206_0 rfl) rfl ?_
        refine WQ.yes rfl rfl ?_
        refine qq (q_load1 T1_3 rfl (fun w1 hw => hw.rgO (i := 1) rfl 0 1 [.int .i64 x2.K] rfl)) rfl ?_
        refine WQ.yes rfl rfl ?_
        refine qq (q_eql rfl rfl) rfl ?_
        refine WQ.yes rfl rfl ?_
        refine qq (q_move rfl) rfl ?_
        obtain ⟨b4, hb_4, hb_3⟩ := bind_some hb_3
        refine WQ.cutN 2 [(69, .bool b4), (2, pv2), (3, .pointer (some ⟨b_1, 0, none⟩)), (4, .pointer (some ⟨b_2, 0, none⟩)), (8, u1), (9, .int .i64 s2), (10, .pointer (some ⟨b_3, 0, none⟩)), (11, .pointer (some ⟨b_4, 0, none⟩)), (12, .bool x3.2), (63, .bool false)] ?_ (fun K => ?_)
        rotate_left
        · refine WQ.split (d := 67) rfl (fun c6 => ?_) (fun c6 => ?_)
          · replace hb_4 := ite_t hb_4 c6
            refine WQ.yes rfl rfl ?_
            refine qq (q_move rfl) rfl ?_
            refine WQ.yes rfl rfl ?_
            refine WQ.q (q_pick1 rfl rfl) rfl rfl rfl ?_
            cases hb_4
            exact WQ.keep (by exact ⟨rfl, rfl, rfl, rfl, rfl, rfl, rfl, rfl, rfl, rfl, trivial⟩) K
          · replace hb_4 := ite_f hb_4 c6
            refine WQ.no rfl rfl rfl rfl ?_
            refine WQ.yes rfl rfl ?_
            refine WQ.q (q_pick0 rfl rfl) rfl rfl rfl ?_
            cases hb_4
            exact WQ.keep (by exact ⟨rfl, rfl, rfl, rfl, rfl, rfl, rfl, rfl, rfl, rfl, trivial⟩) K
        refine WQ.yes rfl rfl ?_
        refine qq (q_move rfl) rfl ?_
        obtain ⟨b5, hb_5, hb_3⟩ := bind_some hb_3
        refine WQ.cutN 8 [(78, .bool b5), (2, pv2), (3, .pointer (some ⟨b_1, 0, none⟩)), (4, .pointer (some ⟨b_2, 0, none⟩)), (8, u1), (9, .int .i64 s2), (10, .pointer (some ⟨b_3, 0, none⟩)), (12, .bool x3.2), (63, .bool false)] ?_ (fun K => ?_)
        rotate_left
        · refine WQ.split (d := 70) rfl (fun c7 => ?_) (fun c7 => ?_)
          · replace hb_5 := ite_t hb_5 c7
            refine WQ.yes rfl rfl ?_
            refine qq (q_loadN Tn_192 rfl (fun w1 hw => hw.rgO (i := 0) rfl 0 3 [.int .i64 x3.1.K, .int .i64 x3.1.N, .string x3.1.S] rfl) rfl) rfl ?_
            refine WQ.yes rfl rfl ?_
            refine qq (q_fieldAddr Fld_188_1 rfl) rfl ?_
            refine WQ.yes rfl rfl ?_
            refine qq (q_load1 T1_112 rfl (fun w1 hw => hw.rgO (i := 2) rfl 1 1 [pv1_0] rfl)) rfl ?_
            refine WQ.yes rfl rfl ?_
            refine qq (q_move rfl) rfl ?_
            refine WQ.yes rfl rfl ?_
            obtain ⟨x5, hx5, hb_5⟩ := bind_some hb_5
            obtain ⟨cs3, F3, -, g3, hb3, hs3, r3⟩ := ph1_0.el (idx_some hx5).2.2
            obtain ⟨rfl, -⟩ := r3
            refine qq (q_indexAddr Sl_112 rfl rfl ph1_0 hx5) rfl ?_
            refine WQ.yes rfl rfl ?_
            refine qq (q_loadN Tn_192 rfl (fun w1 hw => (g3.of_eq 0 3 rfl rfl : rg _ _ _ [.int .i64 x5.K, .int .i64 x5.N, .string x5.S]).rangeAt hw.fro) rfl) rfl ?_
            refine WQ.yes rfl rfl ?_
            refine qq (q_neA EqT_192 rfl rfl rfl (r := eqT_TVal x3.1 x5) rfl) rfl ?_
            refine WQ.yes rfl rfl ?_
            refine WQ.q (q_pick1 rfl rfl) rfl rfl rfl ?_
            cases hb_5
            exact WQ.keep (by exact ⟨rfl, rfl, rfl, rfl, rfl, rfl, rfl, rfl, rfl, trivial⟩) K
          · replace hb_5 := ite_f hb_5 c7
            refine WQ.no rfl rfl rfl rfl ?_
            refine WQ.no rfl rfl rfl rfl ?_
            refine WQ.no rfl rfl rfl rfl ?_
            refine WQ.no rfl rfl rfl rfl ?_
            refine WQ.no rfl rfl rfl rfl ?_
            refine WQ.no rfl rfl rfl rfl ?_
            refine WQ.no rfl rfl rfl rfl ?_
            refine WQ.yes rfl rfl ?_
            refine WQ.q (q_pick0 rfl rfl) rfl rfl rfl ?_
            cases hb_5
            exact WQ.keep (by exact ⟨rfl, rfl, rfl, rfl, rfl, rfl, rfl, rfl, rfl, trivial⟩) K
        refine WQ.q (q_pick0 rfl rfl) rfl rfl rfl ?_
        cases hb_3
        exact WQ.keep (by exact ⟨rfl, rfl, rfl, rfl, rfl, rfl, rfl, rfl, trivial⟩) K
    refine WQ.nil ?_
    refine WT.cond rfl (fun c8 => ?_) (fun c8 => ?_)
    · replace h := ite_t h c8
      refine WT.seq ?_
      refine WT.region ?_
      have rc2 : RC RTBind 4 Φ_3 ([] : List (List Nat)) [] ([] : List TBind) := RC.nil _ _ _
      refine le' (e_lit (vs := []) (C := #[]) RTBind.lasts Sl_79 Zr_194 rfl rfl rfl rfl (fill_made MC_194_0 (fill_nil)) rfl rc2 rfl (by simpa using Kw.nil)) rfl (fun v3 Φ_4 D3 q3 => ?_)
      obtain ⟨fr3, h3⟩ := q3
      replace h3 : OSl RTBind 194 4 Φ_4 [] v3 ([] : List TBind) := by simpa using h3
      replace ph2 := ph2.frame RTBind.lasts fr3 (Dj.empty _)
      refine lq (q_move rfl) rfl ?_
      obtain ⟨x6, hx6, h⟩ := bind_some h
      refine le' (e_appF RTBind.lasts RTBind.one RTBind.flat Sl_79 Ei_194 rfl rfl rfl rfl rfl (js := [0]) (Rr := [ob u1]) rfl h3 ph2 hx6) rfl (fun v4 Φ_5 D4 q4 => ?_)
      obtain ⟨⟨ap2, fr4⟩, h4⟩ := q4
      refine lq (q_assign rfl) rfl ?_
      refine lq (q_assign rfl) rfl ?_
      refine WL.nil ?_
      refine WT.ret Try.func128 (resOk.two rfl rfl) (fun w1 hw => ?_)
      subst hb0
      cases h
      refine postG_of_St (js := [0]) hw rfl ⟨v4, rfl, rfl, h4⟩
    replace h := ite_f h c8
    refine WT.skip ?_
    refine WT.seq ?_
    refine WT.region ?_
    refine lq (q_fieldAddr Fld_206_0 rfl) rfl ?_
    refine lq (q_load1 T1_3 rfl (fun w1 hw => hw.rgO (i := 1) rfl 0 1 [.int .i64 x2.K] rfl)) rfl ?_
    refine lq (q_eql rfl rfl) rfl ?_
    refine lq (q_move rfl) rfl ?_
    obtain ⟨b6, hb_6, h⟩ := bind_some h
    refine WL.cutN 3 [(89, .bool b6), (2, pv2), (3, .pointer (some ⟨b_1, 0, none⟩)), (4, .pointer (some ⟨b_2, 0, none⟩)), (8, u1), (9, .int .i64 s2), (10, .pointer (some ⟨b_3, 0, none⟩))] ?_ (fun K => ?_)
    rotate_left
    · refine WL.split (d := 86) rfl (fun c9 => ?_) (fun c9 => ?_)
      · replace hb_6 := ite_t hb_6 c9
        refine WL.yes rfl rfl ?_
        refine lq (q_move rfl) rfl ?_
        refine WL.yes rfl rfl ?_
        refine lq (q_not rfl) rfl ?_
        refine WL.q (q_pick1 rfl rfl) rfl rfl rfl ?_
        cases hb_6
        exact WL.keep (by exact ⟨rfl, rfl, rfl, rfl, rfl, rfl, rfl, trivial⟩) K
      · replace hb_6 := ite_f hb_6 c9
        refine WL.no rfl rfl rfl rfl ?_
        refine WL.no rfl rfl rfl rfl ?_
        refine WL.q (q_pick0 rfl rfl) rfl rfl rfl ?_
        cases hb_6
        exact WL.keep (by exact ⟨rfl, rfl, rfl, rfl, rfl, rfl, rfl, trivial⟩) K
    refine WL.nil ?_
    refine WT.cond rfl (fun c10 => ?_) (fun c10 => ?_)
    · replace h := ite_t h c10
      refine WT.mix (Kn Φ_3 pG1_0 [(b_4, .cells #[.int .i64 x3.1.K, .int .i64 x3.1.N, .string x3.1.S] 192 (0, 0)), (b_3, .cells #[.int .i64 x2.K, .string x2.S, .int .i64 x2.V.K, .int .i64 x2.V.N, .string x2.V.S] 206 (0, 0)), (b_2, .cells #[.string p1.Kind, pv1_0] 188 (0, 0)), (b_1, .cells #[.string p0.Kind, pv0_0, .bool p0.Not] 121 (0, 0))]) (fun _ => true) mixed (fun _ h => h.drew) ?_
      refine mq 0 rfl (by kernel_rfl) (fun w1 hw => Kn.of (fun _ _ _ h => h) (AllIn.mem ⟨List.mem_of_getElem? (i := 0) rfl, List.mem_of_getElem? (i := 1) rfl, List.mem_of_getElem? (i := 2) rfl, List.mem_of_getElem? (i := 3) rfl, trivial⟩) hw) (q_move rfl) rfl ?_
      refine mq 1 rfl (by kernel_rfl) (fun w1 hw => Kn.of (fun _ _ _ h => h) (AllIn.mem ⟨List.mem_of_getElem? (i := 0) rfl, List.mem_of_getElem? (i := 1) rfl, List.mem_of_getElem? (i := 2) rfl, List.mem_of_getElem? (i := 3) rfl, trivial⟩) hw) (q_fieldAddr Fld_206_1 rfl) rfl ?_
      refine mq 2 rfl (by kernel_rfl) (fun w1 hw => Kn.of (fun _ _ _ h => h) (AllIn.mem ⟨List.mem_of_getElem? (i := 0) rfl, List.mem_of_getElem? (i := 1) rfl, List.mem_of_getElem? (i := 2) rfl, List.mem_of_getElem? (i := 3) rfl, trivial⟩) hw) (q_load1 T1_9 rfl (fun w1 hw => hw.rgO (i := 1) rfl 1 1 [.string x2.S] rfl)) rfl ?_
      refine mq 3 rfl (by kernel_rfl) (fun w1 hw => Kn.of (fun _ _ _ h => h) (AllIn.mem ⟨List.mem_of_getElem? (i := 0) rfl, List.mem_of_getElem? (i := 1) rfl, List.mem_of_getElem? (i := 2) rfl, List.mem_of_getElem? (i := 3) rfl, trivial⟩) hw) (q_fieldAddr Fld_188_1 rfl) rfl ?_
      refine mq 4 rfl (by kernel_rfl) (fun w1 hw => Kn.of (fun _ _ _ h => h) (AllIn.mem ⟨List.mem_of_getElem? (i := 0) rfl, List.mem_of_getElem? (i := 1) rfl, List.mem_of_getElem? (i := 2) rfl, List.mem_of_getElem? (i := 3) rfl, trivial⟩) hw) (q_load1 T1_112 rfl (fun w1 hw => hw.rgO (i := 2) rfl 1 1 [pv1_0] rfl)) rfl ?_
      refine mq 5 rfl (by kernel_rfl) (fun w1 hw => Kn.of (fun _ _ _ h => h) (AllIn.mem ⟨List.mem_of_getElem? (i := 0) rfl, List.mem_of_getElem? (i := 1) rfl, List.mem_of_getElem? (i := 2) rfl, List.mem_of_getElem? (i := 3) rfl, trivial⟩) hw) (q_move rfl) rfl ?_
      obtain ⟨x7, hx7, h⟩ := bind_some h
      obtain ⟨cs4, F4, -, g4, hb4, hs4, r4⟩ := ph1_0.el (idx_some hx7).2.2
      obtain ⟨rfl, -⟩ := r4
      refine mq 6 rfl (by kernel_rfl) (fun w1 hw => Kn.of (fun _ _ _ h => h) (AllIn.mem ⟨List.mem_of_getElem? (i := 0) rfl, List.mem_of_getElem? (i := 1) rfl, List.mem_of_getElem? (i := 2) rfl, List.mem_of_getElem? (i := 3) rfl, trivial⟩) hw) (q_indexAddr Sl_112 rfl rfl ph1_0 hx7) rfl ?_
      refine mq 7 rfl (by kernel_rfl) (fun w1 hw => Kn.of (fun _ _ _ h => h) (AllIn.mem ⟨List.mem_of_getElem? (i := 0) rfl, List.mem_of_getElem? (i := 1) rfl, List.mem_of_getElem? (i := 2) rfl, List.mem_of_getElem? (i := 3) rfl, trivial⟩) hw) (q_loadN Tn_192 rfl (fun w1 hw => hw.rg hb4 (g4.of_eq 0 3 rfl rfl : rg _ _ _ [.int .i64 x7.K, .int .i64 x7.N, .string x7.S])) rfl) rfl ?_
      refine mq 8 rfl (by kernel_rfl) (fun w1 hw => Kn.of (fun _ _ _ h => h) (AllIn.mem ⟨List.mem_of_getElem? (i := 0) rfl, List.mem_of_getElem? (i := 1) rfl, List.mem_of_getElem? (i := 2) rfl, List.mem_of_getElem? (i := 3) rfl, trivial⟩) hw) (q_build (vs := [(0, .string x2.S), (1, .agg [.int .i64 x7.K, .int .i64 x7.N, .string x7.S].toArray)]) (C := #[.string x2.S, .int .i64 x7.K, .int .i64 x7.N, .string x7.S]) Pl_194 Zr_194 rfl (fill_cons (cells := [.string ⟨#[]⟩, .int .i64 0, .int .i64 0, .string ⟨#[]⟩]) (c := [.string x2.S]) (C' := [.string x2.S, .int .i64 0, .int .i64 0, .string ⟨#[]⟩]) rfl rfl rfl rfl rfl (fill_cons (cells := [.string x2.S, .int .i64 0, .int .i64 0, .string ⟨#[]⟩]) (c := [.int .i64 x7.K, .int .i64 x7.N, .string x7.S]) (C' := [.string x2.S, .int .i64 x7.K, .int .i64 x7.N, .string x7.S]) rfl rfl rfl rfl rfl (fill_nil)))) rfl ?_
      have rc3 : RC RTBind 4 Φ_3 ([[]] : List (List Nat)) [.string x2.S, .int .i64 x7.K, .int .i64 x7.N, .string x7.S] ([(⟨x2.S, x7⟩ : TBind)] : List TBind) := RC.cons (c := [.string x2.S, .int .i64 x7.K, .int .i64 x7.N, .string x7.S]) (cells := []) ⟨rfl, rfl⟩ rfl (RC.nil _ _ _)
      refine WM.one 9 (by kernel_rfl) (me rfl (fun _ v Φx D w1 hq hw => Kn.of (fun k hk o ho => hq.1 k o (by simp) ((fun _ _ _ h => h) k hk o ho)) (AllIn.mem ⟨List.mem_of_getElem? (i := 0) rfl, List.mem_of_getElem? (i := 1) rfl, List.mem_of_getElem? (i := 2) rfl, List.mem_of_getElem? (i := 3) rfl, trivial⟩) hw) (e_lit (vs := [(0, .agg [.string x2.S, .int .i64 x7.K, .int .i64 x7.N, .string x7.S].toArray)]) (C := #[.string x2.S, .int .i64 x7.K, .int .i64 x7.N, .string x7.S]) RTBind.lasts Sl_79 Zr_194 rfl rfl rfl rfl (fill_made MC_194_1 (fill_cons (cells := [.string ⟨#[]⟩, .int .i64 0, .int .i64 0, .string ⟨#[]⟩]) (c := [.string x2.S, .int .i64 x7.K, .int .i64 x7.N, .string x7.S]) (C' := [.string x2.S, .int .i64 x7.K, .int .i64 x7.N, .string x7.S]) rfl rfl rfl rfl rfl (fill_nil))) rfl rc3 rfl (by simpa using Kw.nil)) rfl (fun v5 Φ_6 D5 q5 => ?_))
      obtain ⟨fr5, h5⟩ := q5
      replace h5 : OSl RTBind 194 4 Φ_6 [] v5 ([(⟨x2.S, x7⟩ : TBind)] : List TBind) := by simpa using h5
      replace ph2 := ph2.frame RTBind.lasts fr5 (Dj.empty _)
      replace ph0_0 := ph0_0.frame RTArg.lasts fr5 (Dj.empty _)
      replace ph1_0 := ph1_0.frame RTVal.lasts fr5 (Dj.empty _)
      replace k1 := k1.frame RTBind.lasts fr5 (Dj.empty _) (Dj.empty _)
      obtain ⟨x8, hx8, h⟩ := bind_some h
      refine WM.one 10 (by kernel_rfl) (me rfl (fun _ v Φx D w1 hq hw => Kn.of (fun k hk o ho => hq.1.2 k o ((hq.1.1.o pa1_0) k hk) ((fun k hk o ho => fr5 k o (by simp) ((fun _ _ _ h => h) k hk o ho)) k hk o ho)) (AllIn.mem ⟨List.mem_of_getElem? (i := 0) rfl, List.mem_of_getElem? (i := 1) rfl, List.mem_of_getElem? (i := 2) rfl, List.mem_of_getElem? (i := 3) rfl, trivial⟩) hw) (e_appF RTBind.lasts RTBind.one RTBind.flat Sl_79 Ei_194 rfl rfl rfl rfl rfl (js := [1]) (Rr := [ob v5]) rfl k1 h5.rsl hx8) rfl (fun v6 Φ_7 D6 q6 => ?_))
      obtain ⟨⟨ap3, fr6⟩, h6⟩ := q6
      replace ph2 := ph2.frame RTBind.lasts fr6 (ap3.o pa2)
      replace ph0_0 := ph0_0.frame RTArg.lasts fr6 (ap3.o pa0_0)
      replace ph1_0 := ph1_0.frame RTVal.lasts fr6 (ap3.o pa1_0)
      refine mq 11 rfl (by kernel_rfl) (fun w1 hw => Kn.of (fun k hk o ho => fr6 k o ((ap3.o pa1_0) k hk) ((fun k hk o ho => fr5 k o (by simp) ((fun _ _ _ h => h) k hk o ho)) k hk o ho)) (AllIn.mem ⟨List.mem_of_getElem? (i := 0) rfl, List.mem_of_getElem? (i := 1) rfl, List.mem_of_getElem? (i := 2) rfl, List.mem_of_getElem? (i := 3) rfl, trivial⟩) hw) (q_assign rfl) rfl ?_
      refine WM.nil (by kernel_rfl) ?_
      refine WT.inBlock ?_
      refine WT.region ?_
      refine lq (q_move rfl) rfl ?_
      refine lq (q_add rfl rfl) rfl ?_
      refine lq (q_assign rfl) rfl ?_
      refine WL.nil ?_
      refine WT.inLoop (WT.mono (l' := [(2, pv2), (3, .pointer (some ⟨b_1, 0, none⟩)), (4, .pointer (some ⟨b_2, 0, none⟩)), (8, v6), (9, .int .i64 (IntKind.i64.wrap (s2 + 1)))]) (S' := St w0 Φ_7 [(b_2, .cells #[.string p1.Kind, pv1_0] 188 (0, 0)), (b_1, .cells #[.string p0.Kind, pv0_0, .bool p0.Not] 121 (0, 0))] [ob v6]) ⟨rfl, rfl, rfl, rfl, rfl, trivial⟩ (fun w1 hw => (hw.sel (js := [0]) rfl).selO (js := [2, 2]) rfl) ?_)
      exact ih1 (Φ_7, x8, v6, IntKind.i64.wrap (s2 + 1)) ⟨h, h6, ph2, ph0_0, ph1_0⟩
    replace h := ite_f h c10
    refine WT.skip ?_
    refine WT.inBlock ?_
    refine WT.region ?_
    refine lq (q_move rfl) rfl ?_
    refine lq (q_add rfl rfl) rfl ?_
    refine lq (q_assign rfl) rfl ?_
    refine WL.nil ?_
    refine WT.inLoop (WT.mono (l' := [(2, pv2), (3, .pointer (some ⟨b_1, 0, none⟩)), (4, .pointer (some ⟨b_2, 0, none⟩)), (8, u1), (9, .int .i64 (IntKind.i64.wrap (s2 + 1)))]) (S' := St w0 Φ_3 [(b_2, .cells #[.string p1.Kind, pv1_0] 188 (0, 0)), (b_1, .cells #[.string p0.Kind, pv0_0, .bool p0.Not] 121 (0, 0))] [ob u1]) ⟨rfl, rfl, rfl, rfl, rfl, trivial⟩ (fun w1 hw => (hw.sel (js := [0]) rfl).selO (js := [2, 2]) rfl) ?_)
    exact ih1 (Φ_3, s1, u1, IntKind.i64.wrap (s2 + 1)) ⟨h, k1, ph2, ph0_0, ph1_0⟩
  replace h := ite_f h c3
  refine WT.exit rfl ?_
  refine WT.seq ?_
  refine WT.region ?_
  refine lq (q_move rfl) rfl ?_
  refine lq (q_assign rfl) rfl ?_
  refine lq (q_assign rfl) rfl ?_
  refine WL.nil ?_
  refine WT.ret Try.func128 (resOk.two rfl rfl) (fun w1 hw => ?_)
  subst hb0
  cases h
  refine postG_of_St (js := [0]) hw rfl ⟨u1, rfl, rfl, k1⟩
theorem m_s_Blocked_ok {Φ : Hp} {w : World} (hΦ : In Φ w) (N : Nat) (p0 : TRule) (p1 : TStore) (p2 : (List TBind)) {pv0_0 : Value} {pG0_0 : List Nat} {pv0_1 : Value} {pG0_1 : List Nat} {pv0_2 : Value} {pG0_2 : List Nat} {pv1_0 : Value} {pG1_0 : List Nat} {pv2 : Value} {pG2 : List Nat} (ph0_0 : RSl RTPat 3 Φ pG0_0 pv0_0 p0.Pats) (ph0_1 : RSl RTCond 11 Φ pG0_1 pv0_1 p0.Conds) (ph0_2 : RSl RTAct 5 Φ pG0_2 pv0_2 p0.Acts) (ph1_0 : RSl RTItem 3 Φ pG1_0 pv1_0 p1.Items) (ph2 : RSl RTBind 4 Φ pG2 pv2 p2) {r : Bool} (h : m_s_Blocked N p0 p1 p2 = some r) :
    Calls Try.prog 53 [.agg [.string p0.Name, .int .i64 p0.Sal, pv0_0, pv0_1, pv0_2].toArray, .agg [pv1_0, .int .i64 p1.Next].toArray, pv2].toArray w (Post (.bool r) w) := by
  refine enter Try.func53 rfl Try.ntmps53 rfl (St.start0 hΦ) ?_
  have pa0_0 : Old ⟨w, [], Φ⟩ pG0_0 := Old.mk hΦ ph0_0.kn (Dj.empty _)
  have pa0_1 : Old ⟨w, [], Φ⟩ pG0_1 := Old.mk hΦ ph0_1.kn (Dj.empty _)
  have pa0_2 : Old ⟨w, [], Φ⟩ pG0_2 := Old.mk hΦ ph0_2.kn (Dj.empty _)
  have pa1_0 : Old ⟨w, [], Φ⟩ pG1_0 := Old.mk hΦ ph1_0.kn (Dj.empty _)
  have pa2 : Old ⟨w, [], Φ⟩ pG2 := Old.mk hΦ ph2.kn (Dj.empty _)
  revert pa0_0 pa0_1 pa0_2 pa1_0 pa2
  generalize hb0 : (⟨w, [], Φ⟩ : Base) = w0
  intro pa0_0 pa0_1 pa0_2 pa1_0 pa2
  unfold m_s_Blocked at h
  refine WT.seq ?_
  refine WT.region ?_
  refine ln (n_box (C := #[.string p0.Name, .int .i64 p0.Sal, pv0_0, pv0_1, pv0_2]) rfl rfl) rfl (fun b_1 => ?_)
  refine ln (n_box (C := #[pv1_0, .int .i64 p1.Next]) rfl rfl) rfl (fun b_2 => ?_)
  refine lq (q_assign rfl) rfl ?_
  refine WL.nil ?_
  refine WT.seq ?_
  refine WT.seq ?_
  refine WT.region ?_
  refine lq (q_assign rfl) rfl ?_
  refine WL.nil ?_
  refine WT.block ?_
  refine WT.loop ?_
  refine WT.mono (l' := [(2, pv2), (3, .pointer (some ⟨b_1, 0, none⟩)), (4, .pointer (some ⟨b_2, 0, none⟩)), (7, .int .i64 0)]) (S' := St w0 Φ [(b_2, .cells #[pv1_0, .int .i64 p1.Next] 101 (0, 0)), (b_1, .cells #[.string p0.Name, .int .i64 p0.Sal, pv0_0, pv0_1, pv0_2] 66 (0, 0))] []) ⟨rfl, rfl, rfl, rfl, trivial⟩ (fun w1 hw => (hw.sel (js := []) rfl).selO (js := [0, 0]) rfl) ?_
  refine loop_ind (σ := Hp × Int) (fun s => [(2, pv2), (3, .pointer (some ⟨b_1, 0, none⟩)), (4, .pointer (some ⟨b_2, 0, none⟩)), (7, .int .i64 s.2)]) (fun s => St w0 s.1 [(b_2, .cells #[pv1_0, .int .i64 p1.Next] 101 (0, 0)), (b_1, .cells #[.string p0.Name, .int .i64 p0.Sal, pv0_0, pv0_1, pv0_2] 66 (0, 0))] []) (fun m s => m_s_Blocked_l1 N p0 p1 p2 m s.2 = some r ∧ (RSl RTBind 4 s.1 pG2 pv2 p2) ∧ (RSl RTPat 3 s.1 pG0_0 pv0_0 p0.Pats) ∧ (RSl RTCond 11 s.1 pG0_1 pv0_1 p0.Conds) ∧ (RSl RTAct 5 s.1 pG0_2 pv0_2 p0.Acts) ∧ (RSl RTItem 3 s.1 pG1_0 pv1_0 p1.Items)) (fun s hm => none_ne (show (none : Option (Bool)) = some r from hm.1)) (fun n1 ih1 s hm => ?_) N (Φ, 0) ⟨h, ph2, ph0_0, ph0_1, ph0_2, ph1_0⟩
  obtain ⟨Φ_1, s1⟩ := s
  obtain ⟨h, ph2, ph0_0, ph0_1, ph0_2, ph1_0⟩ := hm
  replace h : m_s_Blocked_l1 N p0 p1 p2 (n1 + 1) s1 = some r := h
  replace ph2 : RSl RTBind 4 Φ_1 pG2 pv2 p2 := ph2
  replace ph0_0 : RSl RTPat 3 Φ_1 pG0_0 pv0_0 p0.Pats := ph0_0
  replace ph0_1 : RSl RTCond 11 Φ_1 pG0_1 pv0_1 p0.Conds := ph0_1
  replace ph0_2 : RSl RTAct 5 Φ_1 pG0_2 pv0_2 p0.Acts := ph0_2
  replace ph1_0 : RSl RTItem 3 Φ_1 pG1_0 pv1_0 p1.Items := ph1_0
  show WT _ _ [(2, pv2), (3, .pointer (some ⟨b_1, 0, none⟩)), (4, .pointer (some ⟨b_2, 0, none⟩)), (7, .int .i64 s1)] (St w0 Φ_1 [(b_2, .cells #[pv1_0, .int .i64 p1.Next] 101 (0, 0)), (b_1, .cells #[.string p0.Name, .int .i64 p0.Sal, pv0_0, pv0_1, pv0_2] 66 (0, 0))] [])
  unfold m_s_Blocked_l1 at h
  refine WT.seq ?_
  refine WT.seq ?_
  refine WT.region ?_
  refine lq (q_move rfl) rfl ?_
  refine lq (q_fieldAddr Fld_66_2 rfl) rfl ?_
  refine lq (q_load1 T1_62 rfl (fun w1 hw => hw.rgO (i := 1) rfl 2 1 [pv0_0] rfl)) rfl ?_
  refine lq (q_lenR Sl_62 rfl rfl ph0_0) rfl ?_
  refine lq (q_lss rfl rfl) rfl ?_
  refine WL.nil ?_
  refine WT.cond rfl (fun c1 => ?_) (fun c1 => ?_)
  · replace h := ite_t h c1
    refine WT.skip ?_
    refine WT.seq ?_
    refine WT.block ?_
    refine WT.seq ?_
    refine WT.region ?_
    refine lq (q_assign rfl) rfl ?_
    refine WL.nil ?_
    refine WT.block ?_
    refine WT.loop ?_
    refine WT.mono (l' := [(2, pv2), (3, .pointer (some ⟨b_1, 0, none⟩)), (4, .pointer (some ⟨b_2, 0, none⟩)), (7, .int .i64 s1), (8, .int .i64 0)]) (S' := St w0 Φ_1 [(b_2, .cells #[pv1_0, .int .i64 p1.Next] 101 (0, 0)), (b_1, .cells #[.string p0.Name, .int .i64 p0.Sal, pv0_0, pv0_1, pv0_2] 66 (0, 0))] []) ⟨rfl, rfl, rfl, rfl, rfl, trivial⟩ (fun w1 hw => (hw.sel (js := []) rfl).selO (js := [0, 0]) rfl) ?_
    refine loop_ind (σ := Hp × Int) (fun s => [(2, pv2), (3, .pointer (some ⟨b_1, 0, none⟩)), (4, .pointer (some ⟨b_2, 0, none⟩)), (7, .int .i64 s1), (8, .int .i64 s.2)]) (fun s => St w0 s.1 [(b_2, .cells #[pv1_0, .int .i64 p1.Next] 101 (0, 0)), (b_1, .cells #[.string p0.Name, .int .i64 p0.Sal, pv0_0, pv0_1, pv0_2] 66 (0, 0))] []) (fun m s => m_s_Blocked_l2 N p0 p1 p2 s1 (m_s_Blocked_l1 N p0 p1 p2 n1) m s.2 = some r ∧ (RSl RTBind 4 s.1 pG2 pv2 p2) ∧ (RSl RTPat 3 s.1 pG0_0 pv0_0 p0.Pats) ∧ (RSl RTCond 11 s.1 pG0_1 pv0_1 p0.Conds) ∧ (RSl RTAct 5 s.1 pG0_2 pv0_2 p0.Acts) ∧ (RSl RTItem 3 s.1 pG1_0 pv1_0 p1.Items)) (fun s hm => none_ne (show (none : Option (Bool)) = some r from hm.1)) (fun n2 ih2 s hm => ?_) N (Φ_1, 0) ⟨h, ph2, ph0_0, ph0_1, ph0_2, ph1_0⟩
    obtain ⟨Φ_2, s2⟩ := s
    obtain ⟨h, ph2, ph0_0, ph0_1, ph0_2, ph1_0⟩ := hm
    replace h : m_s_Blocked_l2 N p0 p1 p2 s1 (m_s_Blocked_l1 N p0 p1 p2 n1) (n2 + 1) s2 = some r := h
    replace ph2 : RSl RTBind 4 Φ_2 pG2 pv2 p2 := ph2
    replace ph0_0 : RSl RTPat 3 Φ_2 pG0_0 pv0_0 p0.Pats := ph0_0
    replace ph0_1 : RSl RTCond 11 Φ_2 pG0_1 pv0_1 p0.Conds := ph0_1
    replace ph0_2 : RSl RTAct 5 Φ_2 pG0_2 pv0_2 p0.Acts := ph0_2
    replace ph1_0 : RSl RTItem 3 Φ_2 pG1_0 pv1_0 p1.Items := ph1_0
    show WT _ _ [(2, pv2), (3, .pointer (some ⟨b_1, 0, none⟩)), (4, .pointer (some ⟨b_2, 0, none⟩)), (7, .int .i64 s1), (8, .int .i64 s2)] (St w0 Φ_2 [(b_2, .cells #[pv1_0, .int .i64 p1.Next] 101 (0, 0)), (b_1, .cells #[.string p0.Name, .int .i64 p0.Sal, pv0_0, pv0_1, pv0_2] 66 (0, 0))] [])
    unfold m_s_Blocked_l2 at h
    refine WT.seq ?_
    refine WT.seq ?_
    refine WT.region ?_
    refine lq (q_move rfl) rfl ?_
    refine lq (q_fieldAddr Fld_101_0 rfl) rfl ?_
    refine lq (q_load1 T1_99 rfl (fun w1 hw => hw.rgO (i := 0) rfl 0 1 [pv1_0] rfl)) rfl ?_
    refine lq (q_lenR Sl_99 rfl rfl ph1_0) rfl ?_
    refine lq (q_lss rfl rfl) rfl ?_
    refine lq (q_move rfl) rfl ?_
    obtain ⟨b1, hb_1, h⟩ := bind_some h
    refine WL.cutN 7 [(30, .bool b1), (2, pv2), (3, .pointer (some ⟨b_1, 0, none⟩)), (4, .pointer (some ⟨b_2, 0, none⟩)), (7, .int .i64 s1), (8, .int .i64 s2)] ?_ (fun K => ?_)
    rotate_left
    · refine WL.split (d := 23) rfl (fun c2 => ?_) (fun c2 => ?_)
      · replace hb_1 := ite_t hb_1 c2
        refine WL.yes rfl rfl ?_
        refine lq (q_fieldAddr Fld_66_2 rfl) rfl ?_
        refine WL.yes rfl rfl ?_
        refine lq (q_load1 T1_62 rfl (fun w1 hw => hw.rgO (i := 1) rfl 2 1 [pv0_0] rfl)) rfl ?_
        refine WL.yes rfl rfl ?_
        refine lq (q_move rfl) rfl ?_
        refine WL.yes rfl rfl ?_
        obtain ⟨x1, hx1, hb_1⟩ := bind_some hb_1
        obtain ⟨cs1, F1, -, g1, hb1, hs1, r1⟩ := ph0_0.el (idx_some hx1).2.2
        obtain ⟨v1, G1, rfl, hq1, h1⟩ := r1
        obtain rfl := hq1.symm
        refine lq (q_indexAddr Sl_62 rfl rfl ph0_0 hx1) rfl ?_
        refine WL.yes rfl rfl ?_
        refine lq (q_fieldAddr Fld_121_2 rfl) rfl ?_
        refine WL.yes rfl rfl ?_
        refine lq (q_load1 T1_4 rfl (fun w1 hw => (g1.of_eq 2 1 rfl rfl : rg _ _ _ [.bool x1.Not]).rangeAt hw.fro)) rfl ?_
        refine WL.q (q_pick1 rfl rfl) rfl rfl rfl ?_
        cases hb_1
        exact WL.keep (by exact ⟨rfl, rfl, rfl, rfl, rfl, rfl, trivial⟩) K
      · replace hb_1 := ite_f hb_1 c2
        refine WL.no rfl rfl rfl rfl ?_
        refine WL.no rfl rfl rfl rfl ?_
        refine WL.no rfl rfl rfl rfl ?_
        refine WL.no rfl rfl rfl rfl ?_
        refine WL.no rfl rfl rfl rfl ?_
        refine WL.no rfl rfl rfl rfl ?_
        refine WL.q (q_pick0 rfl rfl) rfl rfl rfl ?_
        cases hb_1
        exact WL.keep (by exact ⟨rfl, rfl, rfl, rfl, rfl, rfl, trivial⟩) K
    refine WL.nil ?_
    refine WT.cond rfl (fun c3 => ?_) (fun c3 => ?_)
    · replace h := ite_t h c3
      refine WT.skip ?_
      refine WT.seq ?_
      refine WT.block ?_
      refine WT.seq ?_
      refine WT.mix (Kn Φ_2 (pG0_0 ++ pG1_0) [(b_2, .cells #[pv1_0, .int .i64 p1.Next] 101 (0, 0)), (b_1, .cells #[.string p0.Name, .int .i64 p0.Sal, pv0_0, pv0_1, pv0_2] 66 (0, 0))]) (fun _ => true) mixed (fun _ h => h.drew) ?_
      refine mq 0 rfl (by kernel_rfl) (fun w1 hw => Kn.of (fun _ _ _ h => h) (AllIn.mem ⟨List.mem_of_getElem? (i := 0) rfl, List.mem_of_getElem? (i := 1) rfl, trivial⟩) hw) (q_fieldAddr Fld_66_2 rfl) rfl ?_
      refine mq 1 rfl (by kernel_rfl) (fun w1 hw => Kn.of (fun _ _ _ h => h) (AllIn.mem ⟨List.mem_of_getElem? (i := 0) rfl, List.mem_of_getElem? (i := 1) rfl, trivial⟩) hw) (q_load1 T1_62 rfl (fun w1 hw => hw.rgO (i := 1) rfl 2 1 [pv0_0] rfl)) rfl ?_
      refine mq 2 rfl (by kernel_rfl) (fun w1 hw => Kn.of (fun _ _ _ h => h) (AllIn.mem ⟨List.mem_of_getElem? (i := 0) rfl, List.mem_of_getElem? (i := 1) rfl, trivial⟩) hw) (q_move rfl) rfl ?_
      obtain ⟨x2, hx2, h⟩ := bind_some h
      obtain ⟨cs2, F2, -, g2, hb2, hs2, r2⟩ := ph0_0.el (idx_some hx2).2.2
      obtain ⟨v2, G2, rfl, hq2, h2⟩ := r2
      obtain rfl := hq2.symm
      refine mq 3 rfl (by kernel_rfl) (fun w1 hw => Kn.of (fun _ _ _ h => h) (AllIn.mem ⟨List.mem_of_getElem? (i := 0) rfl, List.mem_of_getElem? (i := 1) rfl, trivial⟩) hw) (q_indexAddr Sl_62 rfl rfl ph0_0 hx2) rfl ?_
      refine mq 4 rfl (by kernel_rfl) (fun w1 hw => Kn.of (fun _ _ _ h => h) (AllIn.mem ⟨List.mem_of_getElem? (i := 0) rfl, List.mem_of_getElem? (i := 1) rfl, trivial⟩) hw) (q_loadN Tn_121 rfl (fun w1 hw => hw.rg (List.mem_append.2 (.inl hb2)) (g2.of_eq 0 3 rfl rfl : rg _ _ _ [.string x2.Kind, v2, .bool x2.Not])) rfl) rfl ?_
      refine mq 5 rfl (by kernel_rfl) (fun w1 hw => Kn.of (fun _ _ _ h => h) (AllIn.mem ⟨List.mem_of_getElem? (i := 0) rfl, List.mem_of_getElem? (i := 1) rfl, trivial⟩) hw) (q_fieldAddr Fld_101_0 rfl) rfl ?_
      refine mq 6 rfl (by kernel_rfl) (fun w1 hw => Kn.of (fun _ _ _ h => h) (AllIn.mem ⟨List.mem_of_getElem? (i := 0) rfl, List.mem_of_getElem? (i := 1) rfl, trivial⟩) hw) (q_load1 T1_99 rfl (fun w1 hw => hw.rgO (i := 0) rfl 0 1 [pv1_0] rfl)) rfl ?_
      refine mq 7 rfl (by kernel_rfl) (fun w1 hw => Kn.of (fun _ _ _ h => h) (AllIn.mem ⟨List.mem_of_getElem? (i := 0) rfl, List.mem_of_getElem? (i := 1) rfl, trivial⟩) hw) (q_move rfl) rfl ?_
      obtain ⟨x3, hx3, h⟩ := bind_some h
      obtain ⟨cs3, F3, -, g3, hb3, hs3, r3⟩ := ph1_0.el (idx_some hx3).2.2
      obtain ⟨v3, G3, rfl, hq3, h3⟩ := r3
      obtain rfl := hq3.symm
      refine mq 8 rfl (by kernel_rfl) (fun w1 hw => Kn.of (fun _ _ _ h => h) (AllIn.mem ⟨List.mem_of_getElem? (i := 0) rfl, List.mem_of_getElem? (i := 1) rfl, trivial⟩) hw) (q_indexAddr Sl_99 rfl rfl ph1_0 hx3) rfl ?_
      refine mq 9 rfl (by kernel_rfl) (fun w1 hw => Kn.of (fun _ _ _ h => h) (AllIn.mem ⟨List.mem_of_getElem? (i := 0) rfl, List.mem_of_getElem? (i := 1) rfl, trivial⟩) hw) (q_fieldAddr Fld_190_1 rfl) rfl ?_
      refine mq 10 rfl (by kernel_rfl) (fun w1 hw => Kn.of (fun _ _ _ h => h) (AllIn.mem ⟨List.mem_of_getElem? (i := 0) rfl, List.mem_of_getElem? (i := 1) rfl, trivial⟩) hw) (q_loadN Tn_188 rfl (fun w1 hw => hw.rg (List.mem_append.2 (.inr hb3)) (g3.of_eq 1 2 rfl rfl : rg _ _ _ [.string x3.F.Kind, v3])) rfl) rfl ?_
      refine mq 11 rfl (by kernel_rfl) (fun w1 hw => Kn.of (fun _ _ _ h => h) (AllIn.mem ⟨List.mem_of_getElem? (i := 0) rfl, List.mem_of_getElem? (i := 1) rfl, trivial⟩) hw) (q_move rfl) rfl ?_
      obtain ⟨x4, hx4, h⟩ := bind_some h
      refine WM.one 12 (by kernel_rfl) (mc rfl (fun _ v Φx D w1 hq hw => Kn.of (fun k hk o ho => hq.2.1 k o ((Dj.app (hq.1.o pa0_0) (hq.1.o pa1_0)) k hk) ((fun _ _ _ h => h) k hk o ho)) (AllIn.mem ⟨List.mem_of_getElem? (i := 0) rfl, List.mem_of_getElem? (i := 1) rfl, trivial⟩) hw) (k_call (js := []) (R := []) Fun_128 rfl rfl (fun w1 hw ap hl => m_s_MatchPat_ok hw.fro N x2 x3.F p2 h2 h3 ph2  hx4)) rfl (fun v4 Φ_3 F4 q1 => ?_))
      obtain ⟨ap1, fr1, v5, rfl, rfl, h4⟩ := q1
      replace ph2 := ph2.frame RTBind.lasts fr1 (ap1.o pa2)
      replace ph0_0 := ph0_0.frame RTPat.lasts fr1 (ap1.o pa0_0)
      replace ph0_1 := ph0_1.frame RTCond.lasts fr1 (ap1.o pa0_1)
      replace ph0_2 := ph0_2.frame RTAct.lasts fr1 (ap1.o pa0_2)
      replace ph1_0 := ph1_0.frame RTItem.lasts fr1 (ap1.o pa1_0)
      refine mq 13 rfl (by kernel_rfl) (fun w1 hw => Kn.of (fun k hk o ho => fr1 k o ((Dj.app (ap1.o pa0_0) (ap1.o pa1_0)) k hk) ((fun _ _ _ h => h) k hk o ho)) (AllIn.mem ⟨List.mem_of_getElem? (i := 0) rfl, List.mem_of_getElem? (i := 1) rfl, trivial⟩) hw) (q_move rfl) rfl ?_
      refine mq 14 rfl (by kernel_rfl) (fun w1 hw => Kn.of (fun k hk o ho => fr1 k o ((Dj.app (ap1.o pa0_0) (ap1.o pa1_0)) k hk) ((fun _ _ _ h => h) k hk o ho)) (AllIn.mem ⟨List.mem_of_getElem? (i := 0) rfl, List.mem_of_getElem? (i := 1) rfl, trivial⟩) hw) (q_extract rfl rfl) rfl ?_
      refine mq 15 rfl (by kernel_rfl) (fun w1 hw => Kn.of (fun k hk o ho => fr1 k o ((Dj.app (ap1.o pa0_0) (ap1.o pa1_0)) k hk) ((fun _ _ _ h => h) k hk o ho)) (AllIn.mem ⟨List.mem_of_getElem? (i := 0) rfl, List.mem_of_getElem? (i := 1) rfl, trivial⟩) hw) (q_extract rfl rfl) rfl ?_
      refine mq 16 rfl (by kernel_rfl) (fun w1 hw => Kn.of (fun k hk o ho => fr1 k o ((Dj.app (ap1.o pa0_0) (ap1.o pa1_0)) k hk) ((fun _ _ _ h => h) k hk o ho)) (AllIn.mem ⟨List.mem_of_getElem? (i := 0) rfl, List.mem_of_getElem? (i := 1) rfl, trivial⟩) hw) (q_assign rfl) rfl ?_
      refine mq 17 rfl (by kernel_rfl) (fun w1 hw => Kn.of (fun k hk o ho => fr1 k o ((Dj.app (ap1.o pa0_0) (ap1.o pa1_0)) k hk) ((fun _ _ _ h => h) k hk o ho)) (AllIn.mem ⟨List.mem_of_getElem? (i := 0) rfl, List.mem_of_getElem? (i := 1) rfl, trivial⟩) hw) (q_assign rfl) rfl ?_
      refine WM.nil (by kernel_rfl) ?_
      refine WT.seq ?_
      refine WT.region ?_
      refine lq (q_move rfl) rfl ?_
      refine WL.nil ?_
      refine WT.cond rfl (fun c4 => ?_) (fun c4 => ?_)
      · replace h := ite_t h c4
        refine WT.seq ?_
        refine WT.region ?_
        refine lq (q_assign rfl) rfl ?_
        refine WL.nil ?_
        refine WT.ret Try.func53 (resOk.one rfl) (fun w1 hw => ?_)
        subst hb0
        cases h
        exact post_of_St hw
      replace h := ite_f h c4
      refine WT.skip ?_
      refine WT.inBlock ?_
      refine WT.region ?_
      refine lq (q_move rfl) rfl ?_
      refine lq (q_add rfl rfl) rfl ?_
      refine lq (q_assign rfl) rfl ?_
      refine WL.nil ?_
      refine WT.inLoop (WT.mono (l' := [(2, pv2), (3, .pointer (some ⟨b_1, 0, none⟩)), (4, .pointer (some ⟨b_2, 0, none⟩)), (7, .int .i64 s1), (8, .int .i64 (IntKind.i64.wrap (s2 + 1)))]) (S' := St w0 Φ_3 [(b_2, .cells #[pv1_0, .int .i64 p1.Next] 101 (0, 0)), (b_1, .cells #[.string p0.Name, .int .i64 p0.Sal, pv0_0, pv0_1, pv0_2] 66 (0, 0))] []) ⟨rfl, rfl, rfl, rfl, rfl, trivial⟩ (fun w1 hw => (hw.sel (js := []) rfl).selO (js := [0, 0]) rfl) ?_)
      exact ih2 (Φ_3, IntKind.i64.wrap (s2 + 1)) ⟨h, ph2, ph0_0, ph0_1, ph0_2, ph1_0⟩
    replace h := ite_f h c3
    refine WT.exit rfl ?_
    refine WT.inBlock ?_
    refine WT.region ?_
    refine lq (q_move rfl) rfl ?_
    refine lq (q_add rfl rfl) rfl ?_
    refine lq (q_assign rfl) rfl ?_
    refine WL.nil ?_
    refine WT.inLoop (WT.mono (l' := [(2, pv2), (3, .pointer (some ⟨b_1, 0, none⟩)), (4, .pointer (some ⟨b_2, 0, none⟩)), (7, .int .i64 (IntKind.i64.wrap (s1 + 1)))]) (S' := St w0 Φ_2 [(b_2, .cells #[pv1_0, .int .i64 p1.Next] 101 (0, 0)), (b_1, .cells #[.string p0.Name, .int .i64 p0.Sal, pv0_0, pv0_1, pv0_2] 66 (0, 0))] []) ⟨rfl, rfl, rfl, rfl, trivial⟩ (fun w1 hw => (hw.sel (js := []) rfl).selO (js := [0, 0]) rfl) ?_)
    exact ih1 (Φ_2, IntKind.i64.wrap (s1 + 1)) ⟨h, ph2, ph0_0, ph0_1, ph0_2, ph1_0⟩
  replace h := ite_f h c1
  refine WT.exit rfl ?_
  refine WT.seq ?_
  refine WT.region ?_
  refine lq (q_assign rfl) rfl ?_
  refine WL.nil ?_
  refine WT.ret Try.func53 (resOk.one rfl) (fun w1 hw => ?_)
  subst hb0
  cases h
  exact post_of_St hw
theorem m_l_toValS_ok {Φ : Hp} {w : World} (hΦ : In Φ w) (N : Nat) (p0 : (List TVal)) {pv0 : Value} {pG0 : List Nat} (ph0 : RSl RTVal 3 Φ pG0 pv0 p0) {r : (List TVal)} (h : m_l_toValS N p0 = some r) :
    Calls Try.prog 222 [pv0].toArray w (PostG Φ w [] (fun Φ' Fs v => ∃ (sr_0_0 : Value), v = sr_0_0 ∧ Fs = [ob sr_0_0] ∧ OSl RTVal 192 3 Φ' [] sr_0_0 r)) := by
  refine enter Try.func222 rfl Try.ntmps222 rfl (St.start0 hΦ) ?_
  have pa0 : Old ⟨w, [], Φ⟩ pG0 := Old.mk hΦ ph0.kn (Dj.empty _)
  revert pa0
  generalize hb0 : (⟨w, [], Φ⟩ : Base) = w0
  intro pa0
  unfold m_l_toValS at h
  refine WT.seq ?_
  refine WT.region ?_
  refine lq (q_assign rfl) rfl ?_
  refine WL.nil ?_
  refine WT.seq ?_
  refine WT.region ?_
  refine lq (q_move rfl) rfl ?_
  refine lq (q_lenR Sl_218 rfl rfl ph0) rfl ?_
  obtain ⟨x1, hx1, h⟩ := bind_some h
  refine le' (e_make (R := RTVal) Sl_112 Zr_192 By_192 rfl rfl rfl (fun _ => ⟨rfl, rfl⟩) rfl rfl (Int.le_refl _) hx1 (mk_le hx1)) rfl (fun v1 Φ_1 D1 q1 => ?_)
  obtain ⟨fr1, h1⟩ := q1
  replace ph0 := ph0.frame RTVal.lasts fr1 (Dj.empty _)
  refine lq (q_assign rfl) rfl ?_
  refine WL.nil ?_
  refine WT.seq ?_
  refine WT.seq ?_
  refine WT.region ?_
  refine lq (q_assign rfl) rfl ?_
  refine WL.nil ?_
  refine WT.block ?_
  refine WT.loop ?_
  refine WT.mono (l' := [(0, pv0), (3, v1), (4, .int .i64 0)]) (S' := St w0 Φ_1 [] [ob v1]) ⟨rfl, rfl, rfl, trivial⟩ (fun w1 hw => (hw.sel (js := [0]) rfl).selO (js := []) rfl) ?_
  refine loop_ind (σ := Hp × (List TVal) × Int) (fun s => [(0, pv0), (3, v1), (4, .int .i64 s.2.2)]) (fun s => St w0 s.1 [] [ob v1]) (fun m s => m_l_toValS_l1 N p0 m s.2.1 s.2.2 = some r ∧ (OSl RTVal 192 3 s.1 [] v1 s.2.1) ∧ (RSl RTVal 3 s.1 pG0 pv0 p0)) (fun s hm => none_ne (show (none : Option ((List TVal))) = some r from hm.1)) (fun n1 ih1 s hm => ?_) N (Φ_1, x1, 0) ⟨h, h1, ph0⟩
  obtain ⟨Φ_2, s1, s2⟩ := s
  obtain ⟨h, k1, ph0⟩ := hm
  replace h : m_l_toValS_l1 N p0 (n1 + 1) s1 s2 = some r := h
  replace k1 : OSl RTVal 192 3 Φ_2 [] v1 s1 := k1
  replace ph0 : RSl RTVal 3 Φ_2 pG0 pv0 p0 := ph0
  show WT _ _ [(0, pv0), (3, v1), (4, .int .i64 s2)] (St w0 Φ_2 [] [ob v1])
  unfold m_l_toValS_l1 at h
  refine WT.seq ?_
  refine WT.seq ?_
  refine WT.region ?_
  refine lq (q_move rfl) rfl ?_
  refine lq (q_move rfl) rfl ?_
  refine lq (q_lenR Sl_218 rfl rfl ph0) rfl ?_
  refine lq (q_lss rfl rfl) rfl ?_
  refine WL.nil ?_
  refine WT.cond rfl (fun c1 => ?_) (fun c1 => ?_)
  · replace h := ite_t h c1
    refine WT.skip ?_
    refine WT.seq ?_
    refine WT.block ?_
    refine WT.region ?_
    refine lq (q_move rfl) rfl ?_
    refine lq (q_move rfl) rfl ?_
    refine lq (q_move rfl) rfl ?_
    refine lq (q_move rfl) rfl ?_
    obtain ⟨x2, hx2, h⟩ := bind_some h
    obtain ⟨cs1, F1, -, g1, hb1, hs1, r1⟩ := ph0.el (idx_some hx2).2.2
    obtain ⟨rfl, -⟩ := r1
    refine lq (q_indexAddr Sl_218 rfl rfl ph0 hx2) rfl ?_
    refine lq (q_loadN Tn_182 rfl (fun w1 hw => (g1.of_eq 0 3 rfl rfl : rg _ _ _ [.int .i64 x2.K, .int .i64 x2.N, .string x2.S]).rangeAt hw.fro) rfl) rfl ?_
    obtain ⟨x3, hx3, h⟩ := bind_some h
    refine lp (p_call Fun_202 rfl (fun w1 hw => m_l_toVal_ok hw.fro N x2 hx3)) rfl ?_
    obtain ⟨x4, hx4, h⟩ := bind_some h
    obtain ⟨cs2, F2, -, g2, hb2, hs2, r2⟩ := k1.elS (idx_some hx4).2.2
    obtain ⟨rfl, -⟩ := r2
    refine lq (q_indexAddr Sl_112 rfl rfl k1.rsl hx4) rfl ?_
    refine lu (u_setF (js := [0]) (Rr := []) (vs := [.int .i64 x3.K, .int .i64 x3.N, .string x3.S]) (x' := x3) RTVal.lasts RTVal.flat Sz_192 rfl rfl rfl rfl ⟨rfl, rfl, rfl, trivial⟩ rfl k1 (idx_lt hx4) ⟨rfl, rfl⟩) rfl (fun Φ_3 D2 q2 => ?_)
    obtain ⟨⟨ap1, fr2⟩, h2⟩ := q2
    replace ph0 := ph0.frame RTVal.lasts fr2 (ap1.o pa0)
    refine WL.nil ?_
    refine WT.inBlock ?_
    refine WT.region ?_
    refine lq (q_move rfl) rfl ?_
    refine lq (q_add rfl rfl) rfl ?_
    refine lq (q_assign rfl) rfl ?_
    refine WL.nil ?_
    refine WT.inLoop (WT.mono (l' := [(0, pv0), (3, v1), (4, .int .i64 (IntKind.i64.wrap (s2 + 1)))]) (S' := St w0 Φ_3 [] [ob v1]) ⟨rfl, rfl, rfl, trivial⟩ (fun w1 hw => (hw.sel (js := [0]) rfl).selO (js := []) rfl) ?_)
    exact ih1 (Φ_3, (s1.set s2.toNat x3), IntKind.i64.wrap (s2 + 1)) ⟨h, h2, ph0⟩
  replace h := ite_f h c1
  refine WT.exit rfl ?_
  refine WT.seq ?_
  refine WT.region ?_
  refine lq (q_move rfl) rfl ?_
  refine lq (q_assign rfl) rfl ?_
  refine WL.nil ?_
  refine WT.ret Try.func222 (resOk.one rfl) (fun w1 hw => ?_)
  subst hb0
  cases h
  refine postG_of_St (js := [0]) hw rfl ⟨v1, rfl, rfl, k1⟩
theorem m_l_toFact_ok {Φ : Hp} {w : World} (hΦ : In Φ w) (N : Nat) (p0 : TFact) {pv0_0 : Value} {pG0_0 : List Nat} (ph0_0 : RSl RTVal 3 Φ pG0_0 pv0_0 p0.Fields) {r : TFact} (h : m_l_toFact N p0 = some r) :
    Calls Try.prog 253 [.agg [.string p0.Kind, pv0_0].toArray].toArray w (PostG Φ w [] (fun Φ' Fs v => ∃ (sr_0_0 : Value), v = .agg [.string r.Kind, sr_0_0].toArray ∧ Fs = [ob sr_0_0] ∧ OSl RTVal 192 3 Φ' [] sr_0_0 r.Fields)) := by
  refine enter Try.func253 rfl Try.ntmps253 rfl (St.start0 hΦ) ?_
  unfold m_l_toFact at h
  refine WT.seq ?_
  refine WT.region ?_
  refine ln (n_box (C := #[.string p0.Kind, pv0_0]) rfl rfl) rfl (fun b_1 => ?_)
  refine ln (n_alloc (C := #[.string (⟨#[]⟩ : ByteArray), .slice none 0 0]) Zr_188 rfl) rfl (fun b_2 => ?_)
  refine WL.nil ?_
  refine WT.seq ?_
  refine WT.region ?_
  refine ln (n_alloc (C := #[.string (⟨#[]⟩ : ByteArray), .slice none 0 0]) Zr_188 rfl) rfl (fun b_3 => ?_)
  refine WL.nil ?_
  refine WT.seq ?_
  refine WT.region ?_
  refine lq (q_fieldAddr Fld_268_0 rfl) rfl ?_
  refine lq (q_load1 T1_9 rfl (fun w1 hw => hw.rgO (i := 2) rfl 0 1 [.string p0.Kind] rfl)) rfl ?_
  refine lq (q_fieldAddr Fld_188_0 rfl) rfl ?_
  refine ls (s_store (i := 0) (vs := [.string p0.Kind]) (C' := [.string p0.Kind, .slice none 0 0]) (O' := [(b_3, .cells #[.string p0.Kind, .slice none 0 0] 188 (0, 0)), (b_2, .cells #[.string (⟨#[]⟩ : ByteArray), .slice none 0 0] 188 (0, 0)), (b_1, .cells #[.string p0.Kind, pv0_0] 268 (0, 0))]) Sz_9 rfl rfl rfl rfl rfl rfl ⟨rfl, trivial⟩ rfl rfl) rfl ?_
  refine WL.nil ?_
  refine WT.seq ?_
  refine WT.region ?_
  refine lq (q_fieldAddr Fld_268_1 rfl) rfl ?_
  refine lq (q_load1 T1_218 rfl (fun w1 hw => hw.rgO (i := 2) rfl 1 1 [pv0_0] rfl)) rfl ?_
  obtain ⟨x1, hx1, h⟩ := bind_some h
  refine lc (k_call (js := []) (R := []) Fun_222 rfl rfl (fun w1 hw ap hl => m_l_toValS_ok hw.fro N p0.Fields ph0_0  hx1)) rfl (fun v1 Φ_1 F1 q1 => ?_)
  obtain ⟨ap1, fr1, v2, rfl, rfl, h1⟩ := q1
  refine lq (q_fieldAddr Fld_188_1 rfl) rfl ?_
  refine ls (s_store (i := 0) (vs := [v1]) (C' := [.string p0.Kind, v1]) (O' := [(b_3, .cells #[.string p0.Kind, v1] 188 (0, 0)), (b_2, .cells #[.string (⟨#[]⟩ : ByteArray), .slice none 0 0] 188 (0, 0)), (b_1, .cells #[.string p0.Kind, pv0_0] 268 (0, 0))]) Sz_112 rfl rfl rfl (one_cells h1.one) rfl rfl ⟨h1.one, trivial⟩ rfl rfl) rfl ?_
  refine WL.nil ?_
  refine WT.seq ?_
  refine WT.region ?_
  refine lq (q_loadN Tn_188 rfl (fun w1 hw => hw.rgO (i := 0) rfl 0 2 [.string p0.Kind, v1] rfl) rfl) rfl ?_
  refine ls (s_store (i := 1) (vs := [.string p0.Kind, v1]) (C' := [.string p0.Kind, v1]) (O' := [(b_3, .cells #[.string p0.Kind, v1] 188 (0, 0)), (b_2, .cells #[.string p0.Kind, v1] 188 (0, 0)), (b_1, .cells #[.string p0.Kind, pv0_0] 268 (0, 0))]) Sz_188 rfl rfl rfl rfl rfl rfl ⟨rfl, h1.one, trivial⟩ rfl rfl) rfl ?_
  refine WL.nil ?_
  refine WT.ret Try.func253 (resOk.one (rv_cell Tn_188 rfl (fun w1 hw => hw.rgO (i := 1) rfl 0 2 [.string p0.Kind, v1] rfl) rfl)) (fun w1 hw => ?_)
  cases h
  refine postG_of_St (js := [0]) hw rfl ⟨v1, rfl, rfl, h1⟩
theorem m_l_toItem_ok {Φ : Hp} {w : World} (hΦ : In Φ w) (N : Nat) (p0 : TItem) {pv0_0 : Value} {pG0_0 : List Nat} (ph0_0 : RSl RTVal 3 Φ pG0_0 pv0_0 p0.F.Fields) {r : TItem} (h : m_l_toItem N p0 = some r) :
    Calls Try.prog 201 [.agg [.int .i64 p0.Id, .string p0.F.Kind, pv0_0].toArray].toArray w (PostG Φ w [] (fun Φ' Fs v => ∃ (sr_0_0 : Value), v = .agg [.int .i64 r.Id, .string r.F.Kind, sr_0_0].toArray ∧ Fs = [ob sr_0_0] ∧ OSl RTVal 192 3 Φ' [] sr_0_0 r.F.Fields)) := by
  refine enter Try.func201 rfl Try.ntmps201 rfl (St.start0 hΦ) ?_
  unfold m_l_toItem at h
  refine WT.seq ?_
  refine WT.region ?_
  refine ln (n_box (C := #[.int .i64 p0.Id, .string p0.F.Kind, pv0_0]) rfl rfl) rfl (fun b_1 => ?_)
  refine ln (n_alloc (C := #[.int .i64 0, .string (⟨#[]⟩ : ByteArray), .slice none 0 0]) Zr_190 rfl) rfl (fun b_2 => ?_)
  refine WL.nil ?_
  refine WT.seq ?_
  refine WT.region ?_
  refine ln (n_alloc (C := #[.int .i64 0, .string (⟨#[]⟩ : ByteArray), .slice none 0 0]) Zr_190 rfl) rfl (fun b_3 => ?_)
  refine WL.nil ?_
  refine WT.seq ?_
  refine WT.region ?_
  refine lq (q_fieldAddr Fld_270_0 rfl) rfl ?_
  refine lq (q_load1 T1_3 rfl (fun w1 hw => hw.rgO (i := 2) rfl 0 1 [.int .i64 p0.Id] rfl)) rfl ?_
  refine lq (q_fieldAddr Fld_190_0 rfl) rfl ?_
  refine ls (s_store (i := 0) (vs := [.int .i64 p0.Id]) (C' := [.int .i64 p0.Id, .string (⟨#[]⟩ : ByteArray), .slice none 0 0]) (O' := [(b_3, .cells #[.int .i64 p0.Id, .string (⟨#[]⟩ : ByteArray), .slice none 0 0] 190 (0, 0)), (b_2, .cells #[.int .i64 0, .string (⟨#[]⟩ : ByteArray), .slice none 0 0] 190 (0, 0)), (b_1, .cells #[.int .i64 p0.Id, .string p0.F.Kind, pv0_0] 270 (0, 0))]) Sz_3 rfl rfl rfl rfl rfl rfl ⟨rfl, trivial⟩ rfl rfl) rfl ?_
  refine WL.nil ?_
  refine WT.seq ?_
  refine WT.region ?_
  refine lq (q_fieldAddr Fld_270_1 rfl) rfl ?_
  refine lq (q_loadN Tn_268 rfl (fun w1 hw => hw.rgO (i := 2) rfl 1 2 [.string p0.F.Kind, pv0_0] rfl) rfl) rfl ?_
  obtain ⟨x1, hx1, h⟩ := bind_some h
  refine lc (k_call (js := []) (R := []) Fun_253 rfl rfl (fun w1 hw ap hl => m_l_toFact_ok hw.fro N p0.F ph0_0  hx1)) rfl (fun v1 Φ_1 F1 q1 => ?_)
  obtain ⟨ap1, fr1, v2, rfl, rfl, h1⟩ := q1
  refine lq (q_fieldAddr Fld_190_1 rfl) rfl ?_
  refine ls (s_store (i := 0) (vs := [.string x1.Kind, v2]) (C' := [.int .i64 p0.Id, .string x1.Kind, v2]) (O' := [(b_3, .cells #[.int .i64 p0.Id, .string x1.Kind, v2] 190 (0, 0)), (b_2, .cells #[.int .i64 0, .string (⟨#[]⟩ : ByteArray), .slice none 0 0] 190 (0, 0)), (b_1, .cells #[.int .i64 p0.Id, .string p0.F.Kind, pv0_0] 270 (0, 0))]) Sz_188 rfl rfl rfl rfl rfl rfl ⟨rfl, h1.one, trivial⟩ rfl rfl) rfl ?_
  refine WL.nil ?_
  refine WT.seq ?_
  refine WT.region ?_
  refine lq (q_loadN Tn_190 rfl (fun w1 hw => hw.rgO (i := 0) rfl 0 3 [.int .i64 p0.Id, .string x1.Kind, v2] rfl) rfl) rfl ?_
  refine ls (s_store (i := 1) (vs := [.int .i64 p0.Id, .string x1.Kind, v2]) (C' := [.int .i64 p0.Id, .string x1.Kind, v2]) (O' := [(b_3, .cells #[.int .i64 p0.Id, .string x1.Kind, v2] 190 (0, 0)), (b_2, .cells #[.int .i64 p0.Id, .string x1.Kind, v2] 190 (0, 0)), (b_1, .cells #[.int .i64 p0.Id, .string p0.F.Kind, pv0_0] 270 (0, 0))]) Sz_190 rfl rfl rfl rfl rfl rfl ⟨rfl, rfl, h1.one, trivial⟩ rfl rfl) rfl ?_
  refine WL.nil ?_
  refine WT.ret Try.func201 (resOk.one (rv_cell Tn_190 rfl (fun w1 hw => hw.rgO (i := 1) rfl 0 3 [.int .i64 p0.Id, .string x1.Kind, v2] rfl) rfl)) (fun w1 hw => ?_)
  cases h
  refine postG_of_St (js := [0]) hw rfl ⟨v2, rfl, rfl, h1⟩
theorem m_l_toItemS_ok {Φ : Hp} {w : World} (hΦ : In Φ w) (N : Nat) (p0 : (List TItem)) {pv0 : Value} {pG0 : List Nat} (ph0 : RSl RTItem 3 Φ pG0 pv0 p0) {r : (List TItem)} (h : m_l_toItemS N p0 = some r) :
    Calls Try.prog 129 [pv0].toArray w (PostG Φ w [] (fun Φ' Fs v => ∃ (sr_0_0 : Value) (Dr_0_0 : List Nat), v = sr_0_0 ∧ Fs = [ob sr_0_0, Dr_0_0] ∧ OSl OTItem 190 3 Φ' Dr_0_0 sr_0_0 r)) := by
  refine enter Try.func129 rfl Try.ntmps129 rfl (St.start0 hΦ) ?_
  have pa0 : Old ⟨w, [], Φ⟩ pG0 := Old.mk hΦ ph0.kn (Dj.empty _)
  revert pa0
  generalize hb0 : (⟨w, [], Φ⟩ : Base) = w0
  intro pa0
  unfold m_l_toItemS at h
  refine WT.seq ?_
  refine WT.region ?_
  refine lq (q_assign rfl) rfl ?_
  refine WL.nil ?_
  refine WT.seq ?_
  refine WT.region ?_
  refine lq (q_move rfl) rfl ?_
  refine lq (q_lenR Sl_93 rfl rfl ph0) rfl ?_
  obtain ⟨x1, hx1, h⟩ := bind_some h
  refine le' (e_make (R := OTItem) Sl_99 Zr_190 By_190 rfl rfl rfl (fun _ => ⟨.slice none 0 0, rfl, rfl, OSl.nil _ _ _ _⟩) rfl rfl (Int.le_refl _) hx1 (mk_le hx1)) rfl (fun v1 Φ_1 D1 q1 => ?_)
  obtain ⟨fr1, h1⟩ := q1
  replace ph0 := ph0.frame RTItem.lasts fr1 (Dj.empty _)
  refine WL.conv (S' := St w0 Φ_1 [] ([] :: [ob v1])) (fun w1 hw => hw.addNil) ?_
  refine lq (q_assign rfl) rfl ?_
  refine WL.nil ?_
  refine WT.seq ?_
  refine WT.seq ?_
  refine WT.region ?_
  refine lq (q_assign rfl) rfl ?_
  refine WL.nil ?_
  refine WT.block ?_
  refine WT.loop ?_
  refine WT.mono (l' := [(0, pv0), (3, v1), (4, .int .i64 0)]) (S' := St w0 Φ_1 [] [[], ob v1]) ⟨rfl, rfl, rfl, trivial⟩ (fun w1 hw => (hw.sel (js := [0, 0]) rfl).selO (js := []) rfl) ?_
  refine loop_ind (σ := Hp × (List TItem) × List Nat × Int) (fun s => [(0, pv0), (3, v1), (4, .int .i64 s.2.2.2)]) (fun s => St w0 s.1 [] [s.2.2.1, ob v1]) (fun m s => m_l_toItemS_l1 N p0 m s.2.1 s.2.2.2 = some r ∧ (OSl OTItem 190 3 s.1 s.2.2.1 v1 s.2.1) ∧ (RSl RTItem 3 s.1 pG0 pv0 p0)) (fun s hm => none_ne (show (none : Option ((List TItem))) = some r from hm.1)) (fun n1 ih1 s hm => ?_) N (Φ_1, x1, [], 0) ⟨h, h1, ph0⟩
  obtain ⟨Φ_2, s1, D2, s2⟩ := s
  obtain ⟨h, k1, ph0⟩ := hm
  replace h : m_l_toItemS_l1 N p0 (n1 + 1) s1 s2 = some r := h
  replace k1 : OSl OTItem 190 3 Φ_2 D2 v1 s1 := k1
  replace ph0 : RSl RTItem 3 Φ_2 pG0 pv0 p0 := ph0
  show WT _ _ [(0, pv0), (3, v1), (4, .int .i64 s2)] (St w0 Φ_2 [] [D2, ob v1])
  unfold m_l_toItemS_l1 at h
  refine WT.seq ?_
  refine WT.seq ?_
  refine WT.region ?_
  refine lq (q_move rfl) rfl ?_
  refine lq (q_move rfl) rfl ?_
  refine lq (q_lenR Sl_93 rfl rfl ph0) rfl ?_
  refine lq (q_lss rfl rfl) rfl ?_
  refine WL.nil ?_
  refine WT.cond rfl (fun c1 => ?_) (fun c1 => ?_)
  · replace h := ite_t h c1
    refine WT.skip ?_
    refine WT.seq ?_
    refine WT.block ?_
    refine WT.region ?_
    refine lq (q_move rfl) rfl ?_
    refine lq (q_move rfl) rfl ?_
    refine lq (q_move rfl) rfl ?_
    refine lq (q_move rfl) rfl ?_
    obtain ⟨x2, hx2, h⟩ := bind_some h
    obtain ⟨cs1, F1, -, g1, hb1, hs1, r1⟩ := ph0.el (idx_some hx2).2.2
    obtain ⟨v2, G1, rfl, hq1, h2⟩ := r1
    obtain rfl := hq1.symm
    refine lq (q_indexAddr Sl_93 rfl rfl ph0 hx2) rfl ?_
    refine lq (q_loadN Tn_270 rfl (fun w1 hw => (g1.of_eq 0 3 rfl rfl : rg _ _ _ [.int .i64 x2.Id, .string x2.F.Kind, v2]).rangeAt hw.fro) rfl) rfl ?_
    obtain ⟨x3, hx3, h⟩ := bind_some h
    refine lc (k_call (js := []) (R := [D2, ob v1]) Fun_201 rfl rfl (fun w1 hw ap hl => m_l_toItem_ok hw.fro N x2 h2  hx3)) rfl (fun v3 Φ_3 F2 q2 => ?_)
    obtain ⟨ap1, fr2, v4, rfl, rfl, h3⟩ := q2
    replace ph0 := ph0.frame RTItem.lasts fr2 (ap1.o pa0)
    replace k1 := k1.frame OTItem.lasts fr2 (ap1.r (i := 1) rfl) (ap1.r (i := 0) rfl)
    obtain ⟨x4, hx4, h⟩ := bind_some h
    obtain ⟨cs2, F3, -, g2, hb2, hs2, r2⟩ := k1.elS (idx_some hx4).2.2
    obtain ⟨v5, rfl, rfl, h4⟩ := r2
    have h5 := h4.rsl
    refine lq (q_indexAddr Sl_99 rfl rfl k1.rsl hx4) rfl ?_
    have r3 : OTItem Φ_3 ((ob v4 ++ [])) [.int .i64 x3.Id, .string x3.F.Kind, v4] x3 := ⟨v4, rfl, rfl, h3⟩
    refine lu (u_setO (js := [2]) (Rr := [ob v4, D2]) (vs := [.int .i64 x3.Id, .string x3.F.Kind, v4]) (x' := x3) OTItem.lasts Sz_190 rfl rfl rfl rfl ⟨rfl, rfl, h3.one, trivial⟩ rfl k1 (idx_lt hx4) r3 (OTItem.knows _ _ _ _ r3) (fun ap => (ap.r (i := 1) rfl)) (fun ap => by simpa [ob_nil] using (ap.r (i := 0) rfl))) rfl (fun Φ_4 D3 q3 => ?_)
    obtain ⟨⟨ap2, fr3⟩, sp1, h6⟩ := q3
    replace ph0 := ph0.frame RTItem.lasts fr3 (ap2.o pa0)
    refine WL.conv (S' := St w0 Φ_4 [] [D3, ob v1]) (fun w1 hw => hw.merge (js := [2, 1]) rfl (by simpa [List.append_assoc, ob_nil] using sp1)) ?_
    refine WL.nil ?_
    refine WT.inBlock ?_
    refine WT.region ?_
    refine lq (q_move rfl) rfl ?_
    refine lq (q_add rfl rfl) rfl ?_
    refine lq (q_assign rfl) rfl ?_
    refine WL.nil ?_
    refine WT.inLoop (WT.mono (l' := [(0, pv0), (3, v1), (4, .int .i64 (IntKind.i64.wrap (s2 + 1)))]) (S' := St w0 Φ_4 [] [D3, ob v1]) ⟨rfl, rfl, rfl, trivial⟩ (fun w1 hw => (hw.sel (js := [0, 0]) rfl).selO (js := []) rfl) ?_)
    exact ih1 (Φ_4, (s1.set s2.toNat x3), D3, IntKind.i64.wrap (s2 + 1)) ⟨h, h6, ph0⟩
  replace h := ite_f h c1
  refine WT.exit rfl ?_
  refine WT.seq ?_
  refine WT.region ?_
  refine lq (q_move rfl) rfl ?_
  refine lq (q_assign rfl) rfl ?_
  refine WL.nil ?_
  refine WT.ret Try.func129 (resOk.one rfl) (fun w1 hw => ?_)
  subst hb0
  cases h
  refine postG_of_St (js := [1, 0]) hw rfl ⟨v1, D2, rfl, rfl, k1⟩
theorem m_l_toStore_ok {Φ : Hp} {w : World} (hΦ : In Φ w) (N : Nat) (p0 : TStore) {pv0_0 : Value} {pG0_0 : List Nat} (ph0_0 : RSl RTItem 3 Φ pG0_0 pv0_0 p0.Items) {r : TStore} (h : m_l_toStore N p0 = some r) :
    Calls Try.prog 54 [.agg [pv0_0, .int .i64 p0.Next].toArray].toArray w (PostG Φ w [] (fun Φ' Fs v => ∃ (sr_0_0 : Value) (Dr_0_0 : List Nat), v = .agg [sr_0_0, .int .i64 r.Next].toArray ∧ Fs = [ob sr_0_0, Dr_0_0] ∧ OSl OTItem 190 3 Φ' Dr_0_0 sr_0_0 r.Items)) := by
  refine enter Try.func54 rfl Try.ntmps54 rfl (St.start0 hΦ) ?_
  have pa0_0 : Old ⟨w, [], Φ⟩ pG0_0 := Old.mk hΦ ph0_0.kn (Dj.empty _)
  unfold m_l_toStore at h
  refine WT.seq ?_
  refine WT.region ?_
  refine ln (n_box (C := #[pv0_0, .int .i64 p0.Next]) rfl rfl) rfl (fun b_1 => ?_)
  refine ln (n_alloc (C := #[.slice none 0 0, .int .i64 0]) Zr_101 rfl) rfl (fun b_2 => ?_)
  refine WL.nil ?_
  refine WT.seq ?_
  refine WT.region ?_
  refine ln (n_alloc (C := #[.slice none 0 0, .int .i64 0]) Zr_101 rfl) rfl (fun b_3 => ?_)
  refine WL.nil ?_
  refine WT.seq ?_
  refine WT.region ?_
  refine lq (q_fieldAddr Fld_95_0 rfl) rfl ?_
  refine lq (q_load1 T1_93 rfl (fun w1 hw => hw.rgO (i := 2) rfl 0 1 [pv0_0] rfl)) rfl ?_
  obtain ⟨x1, hx1, h⟩ := bind_some h
  refine lc (k_call (js := []) (R := []) Fun_129 rfl rfl (fun w1 hw ap hl => m_l_toItemS_ok hw.fro N p0.Items ph0_0  hx1)) rfl (fun v1 Φ_1 F1 q1 => ?_)
  obtain ⟨ap1, fr1, v2, D1, rfl, rfl, h1⟩ := q1
  replace ph0_0 := ph0_0.frame RTItem.lasts fr1 (ap1.o pa0_0)
  refine lq (q_fieldAddr Fld_101_0 rfl) rfl ?_
  refine ls (s_store (i := 0) (vs := [v1]) (C' := [v1, .int .i64 0]) (O' := [(b_3, .cells #[v1, .int .i64 0] 101 (0, 0)), (b_2, .cells #[.slice none 0 0, .int .i64 0] 101 (0, 0)), (b_1, .cells #[pv0_0, .int .i64 p0.Next] 95 (0, 0))]) Sz_99 rfl rfl rfl (one_cells h1.one) rfl rfl ⟨h1.one, trivial⟩ rfl rfl) rfl ?_
  refine WL.nil ?_
  refine WT.seq ?_
  refine WT.region ?_
  refine lq (q_fieldAddr Fld_95_1 rfl) rfl ?_
  refine lq (q_load1 T1_3 rfl (fun w1 hw => hw.rgO (i := 2) rfl 1 1 [.int .i64 p0.Next] rfl)) rfl ?_
  refine lq (q_fieldAddr Fld_101_1 rfl) rfl ?_
  refine ls (s_store (i := 0) (vs := [.int .i64 p0.Next]) (C' := [v1, .int .i64 p0.Next]) (O' := [(b_3, .cells #[v1, .int .i64 p0.Next] 101 (0, 0)), (b_2, .cells #[.slice none 0 0, .int .i64 0] 101 (0, 0)), (b_1, .cells #[pv0_0, .int .i64 p0.Next] 95 (0, 0))]) Sz_3 rfl rfl rfl rfl rfl rfl ⟨rfl, trivial⟩ rfl rfl) rfl ?_
  refine WL.nil ?_
  refine WT.seq ?_
  refine WT.region ?_
  refine lq (q_loadN Tn_101 rfl (fun w1 hw => hw.rgO (i := 0) rfl 0 2 [v1, .int .i64 p0.Next] rfl) rfl) rfl ?_
  refine ls (s_store (i := 1) (vs := [v1, .int .i64 p0.Next]) (C' := [v1, .int .i64 p0.Next]) (O' := [(b_3, .cells #[v1, .int .i64 p0.Next] 101 (0, 0)), (b_2, .cells #[v1, .int .i64 p0.Next] 101 (0, 0)), (b_1, .cells #[pv0_0, .int .i64 p0.Next] 95 (0, 0))]) Sz_101 rfl rfl rfl rfl rfl rfl ⟨h1.one, rfl, trivial⟩ rfl rfl) rfl ?_
  refine WL.nil ?_
  refine WT.ret Try.func54 (resOk.one (rv_cell Tn_101 rfl (fun w1 hw => hw.rgO (i := 1) rfl 0 2 [v1, .int .i64 p0.Next] rfl) rfl)) (fun w1 hw => ?_)
  cases h
  refine postG_of_St (js := [0, 0]) hw rfl ⟨v1, D1, rfl, rfl, h1⟩
theorem m_l_toBind_ok {Φ : Hp} {w : World} (hΦ : In Φ w) (N : Nat) (p0 : TBind)   {r : TBind} (h : m_l_toBind N p0 = some r) :
    Calls Try.prog 130 [.agg [.string p0.Name, .int .i64 p0.V.K, .int .i64 p0.V.N, .string p0.V.S].toArray].toArray w (Post (.agg [.string r.Name, .int .i64 r.V.K, .int .i64 r.V.N, .string r.V.S].toArray) w) := by
  refine enter Try.func130 rfl Try.ntmps130 rfl (St.start0 hΦ) ?_
  unfold m_l_toBind at h
  refine WT.seq ?_
  refine WT.region ?_
  refine ln (n_box (C := #[.string p0.Name, .int .i64 p0.V.K, .int .i64 p0.V.N, .string p0.V.S]) rfl rfl) rfl (fun b_1 => ?_)
  refine ln (n_alloc (C := #[.string (⟨#[]⟩ : ByteArray), .int .i64 0, .int .i64 0, .string (⟨#[]⟩ : ByteArray)]) Zr_194 rfl) rfl (fun b_2 => ?_)
  refine WL.nil ?_
  refine WT.seq ?_
  refine WT.region ?_
  refine ln (n_alloc (C := #[.string (⟨#[]⟩ : ByteArray), .int .i64 0, .int .i64 0, .string (⟨#[]⟩ : ByteArray)]) Zr_194 rfl) rfl (fun b_3 => ?_)
  refine WL.nil ?_
  refine WT.seq ?_
  refine WT.region ?_
  refine lq (q_fieldAddr Fld_184_0 rfl) rfl ?_
  refine lq (q_load1 T1_9 rfl (fun w1 hw => hw.rgO (i := 2) rfl 0 1 [.string p0.Name] rfl)) rfl ?_
  refine lq (q_fieldAddr Fld_194_0 rfl) rfl ?_
  refine ls (s_store (i := 0) (vs := [.string p0.Name]) (C' := [.string p0.Name, .int .i64 0, .int .i64 0, .string (⟨#[]⟩ : ByteArray)]) (O' := [(b_3, .cells #[.string p0.Name, .int .i64 0, .int .i64 0, .string (⟨#[]⟩ : ByteArray)] 194 (0, 0)), (b_2, .cells #[.string (⟨#[]⟩ : ByteArray), .int .i64 0, .int .i64 0, .string (⟨#[]⟩ : ByteArray)] 194 (0, 0)), (b_1, .cells #[.string p0.Name, .int .i64 p0.V.K, .int .i64 p0.V.N, .string p0.V.S] 184 (0, 0))]) Sz_9 rfl rfl rfl rfl rfl rfl ⟨rfl, trivial⟩ rfl rfl) rfl ?_
  refine WL.nil ?_
  refine WT.seq ?_
  refine WT.region ?_
  refine lq (q_fieldAddr Fld_184_1 rfl) rfl ?_
  refine lq (q_loadN Tn_182 rfl (fun w1 hw => hw.rgO (i := 2) rfl 1 3 [.int .i64 p0.V.K, .int .i64 p0.V.N, .string p0.V.S] rfl) rfl) rfl ?_
  obtain ⟨x1, hx1, h⟩ := bind_some h
  refine lp (p_call Fun_202 rfl (fun w1 hw => m_l_toVal_ok hw.fro N p0.V hx1)) rfl ?_
  refine lq (q_fieldAddr Fld_194_1 rfl) rfl ?_
  refine ls (s_store (i := 0) (vs := [.int .i64 x1.K, .int .i64 x1.N, .string x1.S]) (C' := [.string p0.Name, .int .i64 x1.K, .int .i64 x1.N, .string x1.S]) (O' := [(b_3, .cells #[.string p0.Name, .int .i64 x1.K, .int .i64 x1.N, .string x1.S] 194 (0, 0)), (b_2, .cells #[.string (⟨#[]⟩ : ByteArray), .int .i64 0, .int .i64 0, .string (⟨#[]⟩ : ByteArray)] 194 (0, 0)), (b_1, .cells #[.string p0.Name, .int .i64 p0.V.K, .int .i64 p0.V.N, .string p0.V.S] 184 (0, 0))]) Sz_192 rfl rfl rfl rfl rfl rfl ⟨rfl, rfl, rfl, trivial⟩ rfl rfl) rfl ?_
  refine WL.nil ?_
  refine WT.seq ?_
  refine WT.region ?_
  refine lq (q_loadN Tn_194 rfl (fun w1 hw => hw.rgO (i := 0) rfl 0 4 [.string p0.Name, .int .i64 x1.K, .int .i64 x1.N, .string x1.S] rfl) rfl) rfl ?_
  refine ls (s_store (i := 1) (vs := [.string p0.Name, .int .i64 x1.K, .int .i64 x1.N, .string x1.S]) (C' := [.string p0.Name, .int .i64 x1.K, .int .i64 x1.N, .string x1.S]) (O' := [(b_3, .cells #[.string p0.Name, .int .i64 x1.K, .int .i64 x1.N, .string x1.S] 194 (0, 0)), (b_2, .cells #[.string p0.Name, .int .i64 x1.K, .int .i64 x1.N, .string x1.S] 194 (0, 0)), (b_1, .cells #[.string p0.Name, .int .i64 p0.V.K, .int .i64 p0.V.N, .string p0.V.S] 184 (0, 0))]) Sz_194 rfl rfl rfl rfl rfl rfl ⟨rfl, rfl, rfl, rfl, trivial⟩ rfl rfl) rfl ?_
  refine WL.nil ?_
  refine WT.ret Try.func130 (resOk.one (rv_cell Tn_194 rfl (fun w1 hw => hw.rgO (i := 1) rfl 0 4 [.string p0.Name, .int .i64 x1.K, .int .i64 x1.N, .string x1.S] rfl) rfl)) (fun w1 hw => ?_)
  cases h
  exact post_of_St hw
theorem m_l_toBindS_ok {Φ : Hp} {w : World} (hΦ : In Φ w) (N : Nat) (p0 : (List TBind)) {pv0 : Value} {pG0 : List Nat} (ph0 : RSl RTBind 4 Φ pG0 pv0 p0) {r : (List TBind)} (h : m_l_toBindS N p0 = some r) :
    Calls Try.prog 55 [pv0].toArray w (PostG Φ w [] (fun Φ' Fs v => ∃ (sr_0_0 : Value), v = sr_0_0 ∧ Fs = [ob sr_0_0] ∧ OSl RTBind 194 4 Φ' [] sr_0_0 r)) := by
  refine enter Try.func55 rfl Try.ntmps55 rfl (St.start0 hΦ) ?_
  have pa0 : Old ⟨w, [], Φ⟩ pG0 := Old.mk hΦ ph0.kn (Dj.empty _)
  revert pa0
  generalize hb0 : (⟨w, [], Φ⟩ : Base) = w0
  intro pa0
  unfold m_l_toBindS at h
  refine WT.seq ?_
  refine WT.region ?_
  refine lq (q_assign rfl) rfl ?_
  refine WL.nil ?_
  refine WT.seq ?_
  refine WT.region ?_
  refine lq (q_move rfl) rfl ?_
  refine lq (q_lenR Sl_87 rfl rfl ph0) rfl ?_
  obtain ⟨x1, hx1, h⟩ := bind_some h
  refine le' (e_make (R := RTBind) Sl_79 Zr_194 By_194 rfl rfl rfl (fun _ => ⟨rfl, rfl⟩) rfl rfl (Int.le_refl _) hx1 (mk_le hx1)) rfl (fun v1 Φ_1 D1 q1 => ?_)
  obtain ⟨fr1, h1⟩ := q1
  replace ph0 := ph0.frame RTBind.lasts fr1 (Dj.empty _)
  refine lq (q_assign rfl) rfl ?_
  refine WL.nil ?_
  refine WT.seq ?_
  refine WT.seq ?_
  refine WT.region ?_
  refine lq (q_assign rfl) rfl ?_
  refine WL.nil ?_
  refine WT.block ?_
  refine WT.loop ?_
  refine WT.mono (l' := [(0, pv0), (3, v1), (4, .int .i64 0)]) (S' := St w0 Φ_1 [] [ob v1]) ⟨rfl, rfl, rfl, trivial⟩ (fun w1 hw => (hw.sel (js := [0]) rfl).selO (js := []) rfl) ?_
  refine loop_ind (σ := Hp × (List TBind) × Int) (fun s => [(0, pv0), (3, v1), (4, .int .i64 s.2.2)]) (fun s => St w0 s.1 [] [ob v1]) (fun m s => m_l_toBindS_l1 N p0 m s.2.1 s.2.2 = some r ∧ (OSl RTBind 194 4 s.1 [] v1 s.2.1) ∧ (RSl RTBind 4 s.1 pG0 pv0 p0)) (fun s hm => none_ne (show (none : Option ((List TBind))) = some r from hm.1)) (fun n1 ih1 s hm => ?_) N (Φ_1, x1, 0) ⟨h, h1, ph0⟩
  obtain ⟨Φ_2, s1, s2⟩ := s
  obtain ⟨h, k1, ph0⟩ := hm
  replace h : m_l_toBindS_l1 N p0 (n1 + 1) s1 s2 = some r := h
  replace k1 : OSl RTBind 194 4 Φ_2 [] v1 s1 := k1
  replace ph0 : RSl RTBind 4 Φ_2 pG0 pv0 p0 := ph0
  show WT _ _ [(0, pv0), (3, v1), (4, .int .i64 s2)] (St w0 Φ_2 [] [ob v1])
  unfold m_l_toBindS_l1 at h
  refine WT.seq ?_
  refine WT.seq ?_
  refine WT.region ?_
  refine lq (q_move rfl) rfl ?_
  refine lq (q_move rfl) rfl ?_
  refine lq (q_lenR Sl_87 rfl rfl ph0) rfl ?_
  refine lq (q_lss rfl rfl) rfl ?_
  refine WL.nil ?_
  refine WT.cond rfl (fun c1 => ?_) (fun c1 => ?_)
  · replace h := ite_t h c1
    refine WT.skip ?_
    refine WT.seq ?_
    refine WT.block ?_
    refine WT.region ?_
    refine lq (q_move rfl) rfl ?_
    refine lq (q_move rfl) rfl ?_
    refine lq (q_move rfl) rfl ?_
    refine lq (q_move rfl) rfl ?_
    obtain ⟨x2, hx2, h⟩ := bind_some h
    obtain ⟨cs1, F1, -, g1, hb1, hs1, r1⟩ := ph0.el (idx_some hx2).2.2
    obtain ⟨rfl, -⟩ := r1
    refine lq (q_indexAddr Sl_87 rfl rfl ph0 hx2) rfl ?_
    refine lq (q_loadN Tn_184 rfl (fun w1 hw => (g1.of_eq 0 4 rfl rfl : rg _ _ _ [.string x2.Name, .int .i64 x2.V.K, .int .i64 x2.V.N, .string x2.V.S]).rangeAt hw.fro) rfl) rfl ?_
    obtain ⟨x3, hx3, h⟩ := bind_some h
    refine lp (p_call Fun_130 rfl (fun w1 hw => m_l_toBind_ok hw.fro N x2 hx3)) rfl ?_
    obtain ⟨x4, hx4, h⟩ := bind_some h
    obtain ⟨cs2, F2, -, g2, hb2, hs2, r2⟩ := k1.elS (idx_some hx4).2.2
    obtain ⟨rfl, -⟩ := r2
    refine lq (q_indexAddr Sl_79 rfl rfl k1.rsl hx4) rfl ?_
    refine lu (u_setF (js := [0]) (Rr := []) (vs := [.string x3.Name, .int .i64 x3.V.K, .int .i64 x3.V.N, .string x3.V.S]) (x' := x3) RTBind.lasts RTBind.flat Sz_194 rfl rfl rfl rfl ⟨rfl, rfl, rfl, rfl, trivial⟩ rfl k1 (idx_lt hx4) ⟨rfl, rfl⟩) rfl (fun Φ_3 D2 q2 => ?_)
    obtain ⟨⟨ap1, fr2⟩, h2⟩ := q2
    replace ph0 := ph0.frame RTBind.lasts fr2 (ap1.o pa0)
    refine WL.nil ?_
    refine WT.inBlock ?_
    refine WT.region ?_
    refine lq (q_move rfl) rfl ?_
    refine lq (q_add rfl rfl) rfl ?_
    refine lq (q_assign rfl) rfl ?_
    refine WL.nil ?_
    refine WT.inLoop (WT.mono (l' := [(0, pv0), (3, v1), (4, .int .i64 (IntKind.i64.wrap (s2 + 1)))]) (S' := St w0 Φ_3 [] [ob v1]) ⟨rfl, rfl, rfl, trivial⟩ (fun w1 hw => (hw.sel (js := [0]) rfl).selO (js := []) rfl) ?_)
    exact ih1 (Φ_3, (s1.set s2.toNat x3), IntKind.i64.wrap (s2 + 1)) ⟨h, h2, ph0⟩
  replace h := ite_f h c1
  refine WT.exit rfl ?_
  refine WT.seq ?_
  refine WT.region ?_
  refine lq (q_move rfl) rfl ?_
  refine lq (q_assign rfl) rfl ?_
  refine WL.nil ?_
  refine WT.ret Try.func55 (resOk.one rfl) (fun w1 hw => ?_)
  subst hb0
  cases h
  refine postG_of_St (js := [0]) hw rfl ⟨v1, rfl, rfl, k1⟩
theorem m_sl_Clone_Si_Bind_i_Bind_ok {Φ : Hp} {w : World} (hΦ : In Φ w) (N : Nat) (p0 : (List TBind)) {pv0 : Value} {pG0 : List Nat} (ph0 : RSl RTBind 4 Φ pG0 pv0 p0) {r : (List TBind)} (h : m_sl_Clone_Si_Bind_i_Bind N p0 = some r) :
    Calls Try.prog 194 [pv0].toArray w (PostG Φ w [] (fun Φ' Fs v => ∃ (sr_0_0 : Value), v = sr_0_0 ∧ Fs = [ob sr_0_0] ∧ OSl RTBind 194 4 Φ' [] sr_0_0 r)) := by
  refine enter Try.func194 rfl Try.ntmps194 rfl (St.start0 hΦ) ?_
  unfold m_sl_Clone_Si_Bind_i_Bind at h
  refine WT.seq ?_
  refine WT.region ?_
  refine lq (q_assign rfl) rfl ?_
  refine WL.nil ?_
  refine WT.seq ?_
  refine WT.seq ?_
  rcases RSl.nilOr ph0 with ⟨hxs1, cc1, hv1⟩ | ⟨a1, cc1, hv1⟩
  · skip
    replace h : some [] = some r := by simpa [hxs1, app] using h
    refine WT.region ?_
    refine lq (q_move rfl) rfl ?_
    refine lq (q_eqNil Sl_79 (congrArg some hv1) rfl) rfl ?_
    refine WL.nil ?_
    refine WT.cond rfl (fun c => ?_) (fun c => by simp at c)
    refine WT.seq ?_
    refine WT.region ?_
    refine lq (q_assign rfl) rfl ?_
    refine WL.nil ?_
    refine WT.ret Try.func194 (resOk.one rfl) (fun w1 hw => ?_)
    cases h
    replace hw := hw.addNil
    refine postG_of_St (js := [0]) hw rfl ⟨.slice none 0 0, rfl, rfl, OSl.nil _ _ _ _⟩
  refine WT.region ?_
  refine lq (q_move rfl) rfl ?_
  refine lq (q_eqNil Sl_79 (congrArg some hv1) rfl) rfl ?_
  refine WL.nil ?_
  refine WT.cond rfl (fun c => by simp at c) (fun c => ?_)
  refine WT.skip ?_
  refine WT.seq ?_
  refine WT.region ?_
  have rc1 : RC RTBind 4 Φ ([] : List (List Nat)) [] ([] : List TBind) := RC.nil _ _ _
  refine le' (e_lit (vs := []) (C := #[]) RTBind.lasts Sl_79 Zr_194 rfl rfl rfl rfl (fill_made MC_194_0 (fill_nil)) rfl rc1 rfl (by simpa using Kw.nil)) rfl (fun v1 Φ_1 D1 q1 => ?_)
  obtain ⟨fr1, h1⟩ := q1
  replace h1 : OSl RTBind 194 4 Φ_1 [] v1 ([] : List TBind) := by simpa using h1
  replace ph0 := ph0.frame RTBind.lasts fr1 (Dj.empty _)
  refine lq (q_move rfl) rfl ?_
  obtain ⟨x1, hx1, h⟩ := bind_some h
  refine le' (e_appF RTBind.lasts RTBind.one RTBind.flat Sl_79 Ei_194 rfl rfl rfl rfl rfl (js := [0]) (Rr := []) rfl h1 ph0 hx1) rfl (fun v2 Φ_2 D2 q2 => ?_)
  obtain ⟨⟨ap1, fr2⟩, h2⟩ := q2
  refine lq (q_assign rfl) rfl ?_
  refine WL.nil ?_
  refine WT.ret Try.func194 (resOk.one rfl) (fun w1 hw => ?_)
  cases h
  refine postG_of_St (js := [0]) hw rfl ⟨v2, rfl, rfl, h2⟩
theorem m_i_BindOf_ok {Φ : Hp} {w : World} (hΦ : In Φ w) (N : Nat) (p0 : (List TBind)) (p1 : ByteArray) {pv0 : Value} {pG0 : List Nat} (ph0 : RSl RTBind 4 Φ pG0 pv0 p0) {r : TVal × Bool} (h : m_i_BindOf N p0 p1 = some r) :
    Calls Try.prog 254 [pv0, .string p1].toArray w (Post (.tuple #[.agg [.int .i64 r.1.K, .int .i64 r.1.N, .string r.1.S].toArray, .bool r.2]) w) := by
  refine enter Try.func254 rfl Try.ntmps254 rfl (St.start0 hΦ) ?_
  generalize hb0 : (⟨w, [], Φ⟩ : Base) = w0
  unfold m_i_BindOf at h
  refine WT.seq ?_
  refine WT.region ?_
  refine ln (n_alloc (C := #[.int .i64 0, .int .i64 0, .string (⟨#[]⟩ : ByteArray)]) Zr_192 rfl) rfl (fun b_1 => ?_)
  refine lq (q_assign rfl) rfl ?_
  refine WL.nil ?_
  refine WT.seq ?_
  refine WT.seq ?_
  refine WT.region ?_
  refine lq (q_move rfl) rfl ?_
  refine lq (q_lenR Sl_79 rfl rfl ph0) rfl ?_
  refine lq (q_move rfl) rfl ?_
  refine WL.nil ?_
  refine WT.block ?_
  refine WT.loop ?_
  refine WT.mono (l' := [(1, .string p1), (4, .pointer (some ⟨b_1, 0, none⟩)), (8, pv0), (9, .int .i64 (p0.length : Int)), (10, .int .i64 0)]) (S' := St w0 Φ [(b_1, .cells #[.int .i64 0, .int .i64 0, .string (⟨#[]⟩ : ByteArray)] 192 (0, 0))] []) ⟨rfl, rfl, rfl, rfl, rfl, trivial⟩ (fun w1 hw => (hw.sel (js := []) rfl).selO (js := [0]) rfl) ?_
  refine loop_ind (σ := Int) (fun s => [(1, .string p1), (4, .pointer (some ⟨b_1, 0, none⟩)), (8, pv0), (9, .int .i64 (p0.length : Int)), (10, .int .i64 s)]) (fun s => St w0 Φ [(b_1, .cells #[.int .i64 0, .int .i64 0, .string (⟨#[]⟩ : ByteArray)] 192 (0, 0))] []) (fun m s => m_i_BindOf_l1 N p0 p1 m s = some r) (fun s hm => none_ne (show (none : Option (TVal × Bool)) = some r from hm)) (fun n1 ih1 s hm => ?_) N (0) h
  revert hm; revert s; intro s1 hm
  have h : m_i_BindOf_l1 N p0 p1 (n1 + 1) s1 = some r := hm
  show WT _ _ [(1, .string p1), (4, .pointer (some ⟨b_1, 0, none⟩)), (8, pv0), (9, .int .i64 (p0.length : Int)), (10, .int .i64 s1)] (St w0 Φ [(b_1, .cells #[.int .i64 0, .int .i64 0, .string (⟨#[]⟩ : ByteArray)] 192 (0, 0))] [])
  unfold m_i_BindOf_l1 at h
  refine WT.seq ?_
  refine WT.region ?_
  refine lq (q_lss rfl rfl) rfl ?_
  refine WL.nil ?_
  refine WT.seq ?_
  refine WT.cond rfl (fun c1 => ?_) (fun c1 => ?_)
  · replace h := ite_t h c1
    refine WT.skip ?_
    refine WT.seq ?_
    refine WT.block ?_
    refine WT.seq ?_
    refine WT.region ?_
    obtain ⟨x1, hx1, h⟩ := bind_some h
    obtain ⟨cs1, F1, -, g1, hb1, hs1, r1⟩ := ph0.el (idx_some hx1).2.2
    obtain ⟨rfl, -⟩ := r1
    refine lq (q_indexAddr Sl_79 rfl rfl ph0 hx1) rfl ?_
    refine lq (q_loadN Tn_194 rfl (fun w1 hw => (g1.of_eq 0 4 rfl rfl : rg _ _ _ [.string x1.Name, .int .i64 x1.V.K, .int .i64 x1.V.N, .string x1.V.S]).rangeAt hw.fro) rfl) rfl ?_
    refine ln (n_alloc (C := #[.string (⟨#[]⟩ : ByteArray), .int .i64 0, .int .i64 0, .string (⟨#[]⟩ : ByteArray)]) Zr_194 rfl) rfl (fun b_2 => ?_)
    refine ls (s_store (i := 0) (vs := [.string x1.Name, .int .i64 x1.V.K, .int .i64 x1.V.N, .string x1.V.S]) (C' := [.string x1.Name, .int .i64 x1.V.K, .int .i64 x1.V.N, .string x1.V.S]) (O' := [(b_2, .cells #[.string x1.Name, .int .i64 x1.V.K, .int .i64 x1.V.N, .string x1.V.S] 194 (0, 0)), (b_1, .cells #[.int .i64 0, .int .i64 0, .string (⟨#[]⟩ : ByteArray)] 192 (0, 0))]) Sz_194 rfl rfl rfl rfl rfl rfl ⟨rfl, rfl, rfl, rfl, trivial⟩ rfl rfl) rfl ?_
    refine WL.nil ?_
    refine WT.seq ?_
    refine WT.region ?_
    refine lq (q_fieldAddr Fld_194_0 rfl) rfl ?_
    refine lq (q_load1 T1_9 rfl (fun w1 hw => hw.rgO (i := 0) rfl 0 1 [.string x1.Name] rfl)) rfl ?_
    refine lq (q_move rfl) rfl ?_
    refine lq (q_seq rfl rfl) rfl ?_
    refine WL.nil ?_
    refine WT.cond rfl (fun c2 => ?_) (fun c2 => ?_)
    · replace h := ite_t h c2
      refine WT.seq ?_
      refine WT.region ?_
      refine lq (q_fieldAddr Fld_194_1 rfl) rfl ?_
      refine lq (q_loadN Tn_192 rfl (fun w1 hw => hw.rgO (i := 0) rfl 1 3 [.int .i64 x1.V.K, .int .i64 x1.V.N, .string x1.V.S] rfl) rfl) rfl ?_
      refine ls (s_store (i := 1) (vs := [.int .i64 x1.V.K, .int .i64 x1.V.N, .string x1.V.S]) (C' := [.int .i64 x1.V.K, .int .i64 x1.V.N, .string x1.V.S]) (O' := [(b_2, .cells #[.string x1.Name, .int .i64 x1.V.K, .int .i64 x1.V.N, .string x1.V.S] 194 (0, 0)), (b_1, .cells #[.int .i64 x1.V.K, .int .i64 x1.V.N, .string x1.V.S] 192 (0, 0))]) Sz_192 rfl rfl rfl rfl rfl rfl ⟨rfl, rfl, rfl, trivial⟩ rfl rfl) rfl ?_
      refine lq (q_assign rfl) rfl ?_
      refine WL.nil ?_
      refine WT.ret Try.func254 (resOk.two (rv_cell Tn_192 rfl (fun w1 hw => hw.rgO (i := 1) rfl 0 3 [.int .i64 x1.V.K, .int .i64 x1.V.N, .string x1.V.S] rfl) rfl) rfl) (fun w1 hw => ?_)
      subst hb0
      cases h
      exact post_of_St hw
    replace h := ite_f h c2
    refine WT.skip ?_
    refine WT.inBlock ?_
    refine WT.region ?_
    refine lq (q_add rfl rfl) rfl ?_
    refine lq (q_move rfl) rfl ?_
    refine WL.nil ?_
    refine WT.inLoop (WT.mono (l' := [(1, .string p1), (4, .pointer (some ⟨b_1, 0, none⟩)), (8, pv0), (9, .int .i64 (p0.length : Int)), (10, .int .i64 (IntKind.i64.wrap (s1 + 1)))]) (S' := St w0 Φ [(b_1, .cells #[.int .i64 0, .int .i64 0, .string (⟨#[]⟩ : ByteArray)] 192 (0, 0))] []) ⟨rfl, rfl, rfl, rfl, rfl, trivial⟩ (fun w1 hw => (hw.sel (js := []) rfl).selO (js := [1]) rfl) ?_)
    exact ih1 (IntKind.i64.wrap (s1 + 1)) h
  replace h := ite_f h c1
  refine WT.exit rfl ?_
  refine WT.seq ?_
  refine WT.region ?_
  refine lq (q_build (vs := []) (C := #[.int .i64 0, .int .i64 0, .string (⟨#[]⟩ : ByteArray)]) Pl_192 Zr_192 rfl (fill_nil)) rfl ?_
  refine ls (s_store (i := 0) (vs := [.int .i64 0, .int .i64 0, .string (⟨#[]⟩ : ByteArray)]) (C' := [.int .i64 0, .int .i64 0, .string (⟨#[]⟩ : ByteArray)]) (O' := [(b_1, .cells #[.int .i64 0, .int .i64 0, .string (⟨#[]⟩ : ByteArray)] 192 (0, 0))]) Sz_192 rfl rfl rfl rfl rfl rfl ⟨rfl, rfl, rfl, trivial⟩ rfl rfl) rfl ?_
  refine lq (q_assign rfl) rfl ?_
  refine WL.nil ?_
  refine WT.ret Try.func254 (resOk.two (rv_cell Tn_192 rfl (fun w1 hw => hw.rgO (i := 0) rfl 0 3 [.int .i64 0, .int .i64 0, .string (⟨#[]⟩ : ByteArray)] rfl) rfl) rfl) (fun w1 hw => ?_)
  subst hb0
  cases h
  exact post_of_St hw
theorem m_i_MatchPat_ok {Φ : Hp} {w : World} (hΦ : In Φ w) (N : Nat) (p0 : TPat) (p1 : TFact) (p2 : (List TBind)) {pv0_0 : Value} {pG0_0 : List Nat} {pv1_0 : Value} {pG1_0 : List Nat} {pv2 : Value} {pG2 : List Nat} (ph0_0 : RSl RTArg 5 Φ pG0_0 pv0_0 p0.Args) (ph1_0 : RSl RTVal 3 Φ pG1_0 pv1_0 p1.Fields) (ph2 : RSl RTBind 4 Φ pG2 pv2 p2) {r : (List TBind) × Bool} (h : m_i_MatchPat N p0 p1 p2 = some r) :
    Calls Try.prog 203 [.agg [.string p0.Kind, pv0_0, .bool p0.Not].toArray, .agg [.string p1.Kind, pv1_0].toArray, pv2].toArray w (PostG Φ w [] (fun Φ' Fs v => ∃ (sr_0_0 : Value), v = .tuple #[sr_0_0, .bool r.2] ∧ Fs = [ob sr_0_0] ∧ OSl RTBind 194 4 Φ' [] sr_0_0 r.1)) := by
  refine enter Try.func203 rfl Try.ntmps203 rfl (St.start0 hΦ) ?_
  have pa0_0 : Old ⟨w, [], Φ⟩ pG0_0 := Old.mk hΦ ph0_0.kn (Dj.empty _)
  have pa1_0 : Old ⟨w, [], Φ⟩ pG1_0 := Old.mk hΦ ph1_0.kn (Dj.empty _)
  have pa2 : Old ⟨w, [], Φ⟩ pG2 := Old.mk hΦ ph2.kn (Dj.empty _)
  revert pa0_0 pa1_0 pa2
  generalize hb0 : (⟨w, [], Φ⟩ : Base) = w0
  intro pa0_0 pa1_0 pa2
  unfold m_i_MatchPat at h
  refine WT.seq ?_
  refine WT.region ?_
  refine ln (n_box (C := #[.string p0.Kind, pv0_0, .bool p0.Not]) rfl rfl) rfl (fun b_1 => ?_)
  refine ln (n_box (C := #[.string p1.Kind, pv1_0]) rfl rfl) rfl (fun b_2 => ?_)
  refine lq (q_assign rfl) rfl ?_
  refine lq (q_assign rfl) rfl ?_
  refine WL.nil ?_
  refine WT.seq ?_
  refine WT.seq ?_
  refine WT.region ?_
  refine lq (q_fieldAddr Fld_188_0 rfl) rfl ?_
  refine lq (q_load1 T1_9 rfl (fun w1 hw => hw.rgO (i := 0) rfl 0 1 [.string p1.Kind] rfl)) rfl ?_
  refine lq (q_fieldAddr Fld_121_0 rfl) rfl ?_
  refine lq (q_load1 T1_9 rfl (fun w1 hw => hw.rgO (i := 1) rfl 0 1 [.string p0.Kind] rfl)) rfl ?_
  refine lq (q_sne rfl rfl) rfl ?_
  refine lq (q_move rfl) rfl ?_
  obtain ⟨b1, hb_1, h⟩ := bind_some h
  refine WL.cutN 8 [(27, .bool b1), (2, pv2), (3, .pointer (some ⟨b_1, 0, none⟩)), (4, .pointer (some ⟨b_2, 0, none⟩))] ?_ (fun K => ?_)
  rotate_left
  · refine WL.split (d := 19) rfl (fun c1 => ?_) (fun c1 => ?_)
    · replace hb_1 := ite_t hb_1 c1
      refine WL.no rfl rfl rfl rfl ?_
      refine WL.no rfl rfl rfl rfl ?_
      refine WL.no rfl rfl rfl rfl ?_
      refine WL.no rfl rfl rfl rfl ?_
      refine WL.no rfl rfl rfl rfl ?_
      refine WL.no rfl rfl rfl rfl ?_
      refine WL.no rfl rfl rfl rfl ?_
      refine WL.q (q_pick1 rfl rfl) rfl rfl rfl ?_
      cases hb_1
      exact WL.keep (by exact ⟨rfl, rfl, rfl, rfl, trivial⟩) K
    · replace hb_1 := ite_f hb_1 c1
      refine WL.yes rfl rfl ?_
      refine lq (q_fieldAddr Fld_188_1 rfl) rfl ?_
      refine WL.yes rfl rfl ?_
      refine lq (q_load1 T1_112 rfl (fun w1 hw => hw.rgO (i := 0) rfl 1 1 [pv1_0] rfl)) rfl ?_
      refine WL.yes rfl rfl ?_
      refine lq (q_lenR Sl_112 rfl rfl ph1_0) rfl ?_
      refine WL.yes rfl rfl ?_
      refine lq (q_fieldAddr Fld_121_1 rfl) rfl ?_
      refine WL.yes rfl rfl ?_
      refine lq (q_load1 T1_119 rfl (fun w1 hw => hw.rgO (i := 1) rfl 1 1 [pv0_0] rfl)) rfl ?_
      refine WL.yes rfl rfl ?_
      refine lq (q_lenR Sl_119 rfl rfl ph0_0) rfl ?_
      refine WL.yes rfl rfl ?_
      refine lq (q_neq rfl rfl) rfl ?_
      refine WL.q (q_pick0 rfl rfl) rfl rfl rfl ?_
      cases hb_1
      exact WL.keep (by exact ⟨rfl, rfl, rfl, rfl, trivial⟩) K
  refine WL.nil ?_
  refine WT.cond rfl (fun c2 => ?_) (fun c2 => ?_)
  · replace h := ite_t h c2
    refine WT.seq ?_
    refine WT.region ?_
    refine lq (q_move rfl) rfl ?_
    obtain ⟨x1, hx1, h⟩ := bind_some h
    refine lc (k_call (js := []) (R := []) Fun_194 rfl rfl (fun w1 hw ap hl => m_sl_Clone_Si_Bind_i_Bind_ok hw.fro N p2 ph2  hx1)) rfl (fun v1 Φ_1 F1 q1 => ?_)
    obtain ⟨ap1, fr1, v2, rfl, rfl, h1⟩ := q1
    refine lq (q_assign rfl) rfl ?_
    refine lq (q_assign rfl) rfl ?_
    refine WL.nil ?_
    refine WT.ret Try.func203 (resOk.two rfl rfl) (fun w1 hw => ?_)
    subst hb0
    cases h
    refine postG_of_St (js := [0]) hw rfl ⟨v1, rfl, rfl, h1⟩
  replace h := ite_f h c2
  refine WT.skip ?_
  refine WT.seq ?_
  refine WT.region ?_
  refine lq (q_move rfl) rfl ?_
  obtain ⟨x2, hx2, h⟩ := bind_some h
  refine lc (k_call (js := []) (R := []) Fun_194 rfl rfl (fun w1 hw ap hl => m_sl_Clone_Si_Bind_i_Bind_ok hw.fro N p2 ph2  hx2)) rfl (fun v3 Φ_2 F2 q2 => ?_)
  obtain ⟨ap2, fr2, v4, rfl, rfl, h2⟩ := q2
  replace ph2 := ph2.frame RTBind.lasts fr2 (ap2.o pa2)
  replace ph0_0 := ph0_0.frame RTArg.lasts fr2 (ap2.o pa0_0)
  replace ph1_0 := ph1_0.frame RTVal.lasts fr2 (ap2.o pa1_0)
  refine lq (q_assign rfl) rfl ?_
  refine WL.nil ?_
  refine WT.seq ?_
  refine WT.seq ?_
  refine WT.region ?_
  refine lq (q_fieldAddr Fld_121_1 rfl) rfl ?_
  refine lq (q_load1 T1_119 rfl (fun w1 hw => hw.rgO (i := 1) rfl 1 1 [pv0_0] rfl)) rfl ?_
  refine lq (q_lenR Sl_119 rfl rfl ph0_0) rfl ?_
  refine lq (q_move rfl) rfl ?_
  refine WL.nil ?_
  refine WT.block ?_
  refine WT.loop ?_
  refine WT.mono (l' := [(2, pv2), (4, .pointer (some ⟨b_2, 0, none⟩)), (8, v3), (33, pv0_0), (34, .int .i64 (p0.Args.length : Int)), (35, .int .i64 0)]) (S' := St w0 Φ_2 [(b_2, .cells #[.string p1.Kind, pv1_0] 188 (0, 0))] [ob v3]) ⟨rfl, rfl, rfl, rfl, rfl, rfl, trivial⟩ (fun w1 hw => (hw.sel (js := [0]) rfl).selO (js := [0]) rfl) ?_
  refine loop_ind (σ := Hp × (List TBind) × Value × Int) (fun s => [(2, pv2), (4, .pointer (some ⟨b_2, 0, none⟩)), (8, s.2.2.1), (33, pv0_0), (34, .int .i64 (p0.Args.length : Int)), (35, .int .i64 s.2.2.2)]) (fun s => St w0 s.1 [(b_2, .cells #[.string p1.Kind, pv1_0] 188 (0, 0))] [ob s.2.2.1]) (fun m s => m_i_MatchPat_l1 N p0 p1 p2 m s.2.1 s.2.2.2 = some r ∧ (OSl RTBind 194 4 s.1 [] s.2.2.1 s.2.1) ∧ (RSl RTBind 4 s.1 pG2 pv2 p2) ∧ (RSl RTVal 3 s.1 pG1_0 pv1_0 p1.Fields) ∧ (RSl RTArg 5 s.1 pG0_0 pv0_0 p0.Args)) (fun s hm => none_ne (show (none : Option ((List TBind) × Bool)) = some r from hm.1)) (fun n1 ih1 s hm => ?_) N (Φ_2, x2, v3, 0) ⟨h, h2, ph2, ph1_0, ph0_0⟩
  obtain ⟨Φ_3, s1, u1, s2⟩ := s
  obtain ⟨h, k1, ph2, ph1_0, ph0_0⟩ := hm
  replace h : m_i_MatchPat_l1 N p0 p1 p2 (n1 + 1) s1 s2 = some r := h
  replace k1 : OSl RTBind 194 4 Φ_3 [] u1 s1 := k1
  replace ph2 : RSl RTBind 4 Φ_3 pG2 pv2 p2 := ph2
  replace ph1_0 : RSl RTVal 3 Φ_3 pG1_0 pv1_0 p1.Fields := ph1_0
  replace ph0_0 : RSl RTArg 5 Φ_3 pG0_0 pv0_0 p0.Args := ph0_0
  show WT _ _ [(2, pv2), (4, .pointer (some ⟨b_2, 0, none⟩)), (8, u1), (33, pv0_0), (34, .int .i64 (p0.Args.length : Int)), (35, .int .i64 s2)] (St w0 Φ_3 [(b_2, .cells #[.string p1.Kind, pv1_0] 188 (0, 0))] [ob u1])
  unfold m_i_MatchPat_l1 at h
  refine WT.seq ?_
  refine WT.region ?_
  refine lq (q_lss rfl rfl) rfl ?_
  refine WL.nil ?_
  refine WT.seq ?_
  refine WT.cond rfl (fun c3 => ?_) (fun c3 => ?_)
  · replace h := ite_t h c3
    refine WT.skip ?_
    refine WT.seq ?_
    refine WT.block ?_
    refine WT.seq ?_
    refine WT.region ?_
    refine lq (q_move rfl) rfl ?_
    obtain ⟨x3, hx3, h⟩ := bind_some h
    obtain ⟨cs1, F3, -, g1, hb1, hs1, r1⟩ := ph0_0.el (idx_some hx3).2.2
    obtain ⟨rfl, -⟩ := r1
    refine lq (q_indexAddr Sl_119 rfl rfl ph0_0 hx3) rfl ?_
    refine lq (q_loadN Tn_206 rfl (fun w1 hw => (g1.of_eq 0 5 rfl rfl : rg _ _ _ [.int .i64 x3.K, .string x3.S, .int .i64 x3.V.K, .int .i64 x3.V.N, .string x3.V.S]).rangeAt hw.fro) rfl) rfl ?_
    refine ln (n_alloc (C := #[.int .i64 0, .string (⟨#[]⟩ : ByteArray), .int .i64 0, .int .i64 0, .string (⟨#[]⟩ : ByteArray)]) Zr_206 rfl) rfl (fun b_3 => ?_)
    refine lq (q_assign rfl) rfl ?_
    refine ls (s_store (i := 0) (vs := [.int .i64 x3.K, .string x3.S, .int .i64 x3.V.K, .int .i64 x3.V.N, .string x3.V.S]) (C' := [.int .i64 x3.K, .string x3.S, .int .i64 x3.V.K, .int .i64 x3.V.N, .string x3.V.S]) (O' := [(b_3, .cells #[.int .i64 x3.K, .string x3.S, .int .i64 x3.V.K, .int .i64 x3.V.N, .string x3.V.S] 206 (0, 0)), (b_2, .cells #[.string p1.Kind, pv1_0] 188 (0, 0))]) Sz_206 rfl rfl rfl rfl rfl rfl ⟨rfl, rfl, rfl, rfl, rfl, trivial⟩ rfl rfl) rfl ?_
    refine WL.nil ?_
    refine WT.seq ?_
    refine WT.region ?_
    refine lq (q_fieldAddr Fld_188_1 rfl) rfl ?_
    refine lq (q_load1 T1_112 rfl (fun w1 hw => hw.rgO (i := 1) rfl 1 1 [pv1_0] rfl)) rfl ?_
    refine lq (q_move rfl) rfl ?_
    obtain ⟨x4, hx4, h⟩ := bind_some h
    obtain ⟨cs2, F4, -, g2, hb2, hs2, r2⟩ := ph1_0.el (idx_some hx4).2.2
    obtain ⟨rfl, -⟩ := r2
    refine lq (q_indexAddr Sl_112 rfl rfl ph1_0 hx4) rfl ?_
    refine lq (q_loadN Tn_192 rfl (fun w1 hw => (g2.of_eq 0 3 rfl rfl : rg _ _ _ [.int .i64 x4.K, .int .i64 x4.N, .string x4.S]).rangeAt hw.fro) rfl) rfl ?_
    refine ln (n_alloc (C := #[.int .i64 0, .int .i64 0, .string (⟨#[]⟩ : ByteArray)]) Zr_192 rfl) rfl (fun b_4 => ?_)
    refine ls (s_store (i := 0) (vs := [.int .i64 x4.K, .int .i64 x4.N, .string x4.S]) (C' := [.int .i64 x4.K, .int .i64 x4.N, .string x4.S]) (O' := [(b_4, .cells #[.int .i64 x4.K, .int .i64 x4.N, .string x4.S] 192 (0, 0)), (b_3, .cells #[.int .i64 x3.K, .string x3.S, .int .i64 x3.V.K, .int .i64 x3.V.N, .string x3.V.S] 206 (0, 0)), (b_2, .cells #[.string p1.Kind, pv1_0] 188 (0, 0))]) Sz_192 rfl rfl rfl rfl rfl rfl ⟨rfl, rfl, rfl, trivial⟩ rfl rfl) rfl ?_
    refine WL.nil ?_
    refine WT.seq ?_
    refine WT.region ?_
    refine lq (q_fieldAddr Fld_206_0 rfl) rfl ?_
    refine lq (q_load1 T1_3 rfl (fun w1 hw => hw.rgO (i := 1) rfl 0 1 [.int .i64 x3.K] rfl)) rfl ?_
    refine WL.nil ?_
    refine WT.block ?_
    refine WT.seq ?_
    refine WT.region ?_
    refine lq (q_eql rfl rfl) rfl ?_
    refine lq (q_assign rfl) rfl ?_
    refine WL.nil ?_
    refine WT.cond rfl (fun c4 => ?_) (fun c4 => ?_)
    · replace h := ite_t h c4
      refine WT.seq ?_
      refine WT.region ?_
      refine lq (q_fieldAddr Fld_206_2 rfl) rfl ?_
      refine lq (q_loadN Tn_192 rfl (fun w1 hw => hw.rgO (i := 1) rfl 2 3 [.int .i64 x3.V.K, .int .i64 x3.V.N, .string x3.V.S] rfl) rfl) rfl ?_
      refine lq (q_loadN Tn_192 rfl (fun w1 hw => hw.rgO (i := 0) rfl 0 3 [.int .i64 x4.K, .int .i64 x4.N, .string x4.S] rfl) rfl) rfl ?_
      refine lq (q_neA EqT_192 rfl rfl rfl (r := eqT_TVal x3.V x4) rfl) rfl ?_
      refine WL.nil ?_
      refine WT.cond rfl (fun c5 => ?_) (fun c5 => ?_)
      · replace h := ite_t h c5
        refine WT.seq ?_
        refine WT.region ?_
        refine lq (q_move rfl) rfl ?_
        obtain ⟨x5, hx5, h⟩ := bind_some h
        refine lc (k_call (js := []) (R := [ob u1]) Fun_194 rfl rfl (fun w1 hw ap hl => m_sl_Clone_Si_Bind_i_Bind_ok hw.fro N p2 ph2  hx5)) rfl (fun v5 Φ_4 F5 q3 => ?_)
        obtain ⟨ap3, fr3, v6, rfl, rfl, h3⟩ := q3
        refine lq (q_assign rfl) rfl ?_
        refine lq (q_assign rfl) rfl ?_
        refine WL.nil ?_
        refine WT.ret Try.func203 (resOk.two rfl rfl) (fun w1 hw => ?_)
        subst hb0
        cases h
        refine postG_of_St (js := [0]) hw rfl ⟨v5, rfl, rfl, h3⟩
      replace h := ite_f h c5
      refine WT.skip ?_
      refine WT.inBlock ?_
      refine WT.inBlock ?_
      refine WT.region ?_
      refine lq (q_add rfl rfl) rfl ?_
      refine lq (q_move rfl) rfl ?_
      refine WL.nil ?_
      refine WT.inLoop (WT.mono (l' := [(2, pv2), (4, .pointer (some ⟨b_2, 0, none⟩)), (8, u1), (33, pv0_0), (34, .int .i64 (p0.Args.length : Int)), (35, .int .i64 (IntKind.i64.wrap (s2 + 1)))]) (S' := St w0 Φ_3 [(b_2, .cells #[.string p1.Kind, pv1_0] 188 (0, 0))] [ob u1]) ⟨rfl, rfl, rfl, rfl, rfl, rfl, trivial⟩ (fun w1 hw => (hw.sel (js := [0]) rfl).selO (js := [2]) rfl) ?_)
      exact ih1 (Φ_3, s1, u1, IntKind.i64.wrap (s2 + 1)) ⟨h, k1, ph2, ph1_0, ph0_0⟩
    replace h := ite_f h c4
    refine WT.seq ?_
    refine WT.region ?_
    refine lq (q_eql rfl rfl) rfl ?_
    refine lq (q_assign rfl) rfl ?_
    refine WL.nil ?_
    refine WT.cond rfl (fun c6 => ?_) (fun c6 => ?_)
    · replace h := ite_t h c6
      refine WT.seq ?_
      refine WT.region ?_
      refine lq (q_move rfl) rfl ?_
      refine lq (q_fieldAddr Fld_206_1 rfl) rfl ?_
      refine lq (q_load1 T1_9 rfl (fun w1 hw => hw.rgO (i := 1) rfl 1 1 [.string x3.S] rfl)) rfl ?_
      obtain ⟨x6, hx6, h⟩ := bind_some h
      refine lp (p_call Fun_254 rfl (fun w1 hw => m_i_BindOf_ok hw.fro N s1 x3.S k1.rsl hx6)) rfl ?_
      refine lq (q_move rfl) rfl ?_
      refine lq (q_extract rfl rfl) rfl ?_
      refine lq (q_extract rfl rfl) rfl ?_
      refine ln (n_alloc (C := #[.int .i64 0, .int .i64 0, .string (⟨#[]⟩ : ByteArray)]) Zr_192 rfl) rfl (fun b_5 => ?_)
      refine ls (s_store (i := 0) (vs := [.int .i64 x6.1.K, .int .i64 x6.1.N, .string x6.1.S]) (C' := [.int .i64 x6.1.K, .int .i64 x6.1.N, .string x6.1.S]) (O' := [(b_5, .cells #[.int .i64 x6.1.K, .int .i64 x6.1.N, .string x6.1.S] 192 (0, 0)), (b_4, .cells #[.int .i64 x4.K, .int .i64 x4.N, .string x4.S] 192 (0, 0)), (b_3, .cells #[.int .i64 x3.K, .string x3.S, .int .i64 x3.V.K, .int .i64 x3.V.N, .string x3.V.S] 206 (0, 0)), (b_2, .cells #[.string p1.Kind, pv1_0] 188 (0, 0))]) Sz_192 rfl rfl rfl rfl rfl rfl ⟨rfl, rfl, rfl, trivial⟩ rfl rfl) rfl ?_
      refine lq (q_assign rfl) rfl ?_
      refine WL.nil ?_
      refine WT.seq ?_
      refine WT.seq ?_
      refine WT.region ?_
      refine lq (q_move rfl) rfl ?_
      refine lq (q_move rfl) rfl ?_
      obtain ⟨b2, hb_2, h⟩ := bind_some h
      refine WL.cutN 4 [(69, .bool b2), (2, pv2), (4, .pointer (some ⟨b_2, 0, none⟩)), (8, u1), (10, .pointer (some ⟨b_3, 0, none⟩)), (11, .pointer (some ⟨b_4, 0, none⟩)), (13, .bool x6.2), (33, pv0_0), (34, .int .i64 (p0.Args.length : Int)), (35, .int .i64 s2)] ?_ (fun K => ?_)
      rotate_left
      · refine WL.split (d := 65) rfl (fun c7 => ?_) (fun c7 => ?_)
        · replace hb_2 := ite_t hb_2 c7
          refine WL.yes rfl rfl ?_
          refine lq (q_loadN Tn_192 rfl (fun w1 hw => hw.rgO (i := 0) rfl 0 3 [.int .i64 x6.1.K, .int .i64 x6.1.N, .string x6.1.S] rfl) rfl) rfl ?_
          refine WL.yes rfl rfl ?_
          refine lq (q_loadN Tn_192 rfl (fun w1 hw => hw.rgO (i := 1) rfl 0 3 [.int .i64 x4.K, .int .i64 x4.N, .string x4.S] rfl) rfl) rfl ?_
          refine WL.yes rfl rfl ?_
          refine lq (q_neA EqT_192 rfl rfl rfl (r := eqT_TVal x6.1 x4) rfl) rfl ?_
          refine WL.q (q_pick1 rfl rfl) rfl rfl rfl ?_
          cases hb_2
          exact WL.keep (by exact ⟨rfl, rfl, rfl, rfl, rfl, rfl, rfl, rfl, rfl, rfl, trivial⟩) K
        · replace hb_2 := ite_f hb_2 c7
          refine WL.no rfl rfl rfl rfl ?_
          refine WL.no rfl rfl rfl rfl ?_
          refine WL.no rfl rfl rfl rfl ?_
          refine WL.q (q_pick0 rfl rfl) rfl rfl rfl ?_
          cases hb_2
          exact WL.keep (by exact ⟨rfl, rfl, rfl, rfl, rfl, rfl, rfl, rfl, rfl, rfl, trivial⟩) K
      refine WL.nil ?_
      refine WT.cond rfl (fun c8 => ?_) (fun c8 => ?_)
      · replace h := ite_t h c8
        refine WT.seq ?_
        refine WT.region ?_
        refine lq (q_move rfl) rfl ?_
        obtain ⟨x7, hx7, h⟩ := bind_some h
        refine lc (k_call (js := []) (R := [ob u1]) Fun_194 rfl rfl (fun w1 hw ap hl => m_sl_Clone_Si_Bind_i_Bind_ok hw.fro N p2 ph2  hx7)) rfl (fun v7 Φ_5 F6 q4 => ?_)
        obtain ⟨ap4, fr4, v8, rfl, rfl, h4⟩ := q4
        refine lq (q_assign rfl) rfl ?_
        refine lq (q_assign rfl) rfl ?_
        refine WL.nil ?_
        refine WT.ret Try.func203 (resOk.two rfl rfl) (fun w1 hw => ?_)
        subst hb0
        cases h
        refine postG_of_St (js := [0]) hw rfl ⟨v7, rfl, rfl, h4⟩
      replace h := ite_f h c8
      refine WT.skip ?_
      refine WT.seq ?_
      refine WT.region ?_
      refine lq (q_move rfl) rfl ?_
      refine lq (q_not rfl) rfl ?_
      refine WL.nil ?_
      refine WT.cond rfl (fun c9 => ?_) (fun c9 => ?_)
      · replace h := ite_t h c9
        refine WT.region ?_
        refine lq (q_move rfl) rfl ?_
        refine lq (q_fieldAddr Fld_206_1 rfl) rfl ?_
        refine lq (q_load1 T1_9 rfl (fun w1 hw => hw.rgO (i := 2) rfl 1 1 [.string x3.S] rfl)) rfl ?_
        refine lq (q_loadN Tn_192 rfl (fun w1 hw => hw.rgO (i := 1) rfl 0 3 [.int .i64 x4.K, .int .i64 x4.N, .string x4.S] rfl) rfl) rfl ?_
        refine lq (q_build (vs := [(0, .string x3.S), (1, .agg [.int .i64 x4.K, .int .i64 x4.N, .string x4.S].toArray)]) (C := #[.string x3.S, .int .i64 x4.K, .int .i64 x4.N, .string x4.S]) Pl_194 Zr_194 rfl (fill_cons (cells := [.string ⟨#[]⟩, .int .i64 0, .int .i64 0, .string ⟨#[]⟩]) (c := [.string x3.S]) (C' := [.string x3.S, .int .i64 0, .int .i64 0, .string ⟨#[]⟩]) rfl rfl rfl rfl rfl (fill_cons (cells := [.string x3.S, .int .i64 0, .int .i64 0, .string ⟨#[]⟩]) (c := [.int .i64 x4.K, .int .i64 x4.N, .string x4.S]) (C' := [.string x3.S, .int .i64 x4.K, .int .i64 x4.N, .string x4.S]) rfl rfl rfl rfl rfl (fill_nil)))) rfl ?_
        have rc1 : RC RTBind 4 Φ_3 ([[]] : List (List Nat)) [.string x3.S, .int .i64 x4.K, .int .i64 x4.N, .string x4.S] ([(⟨x3.S, x4⟩ : TBind)] : List TBind) := RC.cons (c := [.string x3.S, .int .i64 x4.K, .int .i64 x4.N, .string x4.S]) (cells := []) ⟨rfl, rfl⟩ rfl (RC.nil _ _ _)
        refine le' (e_lit (vs := [(0, .agg [.string x3.S, .int .i64 x4.K, .int .i64 x4.N, .string x4.S].toArray)]) (C := #[.string x3.S, .int .i64 x4.K, .int .i64 x4.N, .string x4.S]) RTBind.lasts Sl_79 Zr_194 rfl rfl rfl rfl (fill_made MC_194_1 (fill_cons (cells := [.string ⟨#[]⟩, .int .i64 0, .int .i64 0, .string ⟨#[]⟩]) (c := [.string x3.S, .int .i64 x4.K, .int .i64 x4.N, .string x4.S]) (C' := [.string x3.S, .int .i64 x4.K, .int .i64 x4.N, .string x4.S]) rfl rfl rfl rfl rfl (fill_nil))) rfl rc1 rfl (by simpa using Kw.nil)) rfl (fun v9 Φ_6 D1 q5 => ?_)
        obtain ⟨fr5, h5⟩ := q5
        replace h5 : OSl RTBind 194 4 Φ_6 [] v9 ([(⟨x3.S, x4⟩ : TBind)] : List TBind) := by simpa using h5
        replace ph2 := ph2.frame RTBind.lasts fr5 (Dj.empty _)
        replace ph1_0 := ph1_0.frame RTVal.lasts fr5 (Dj.empty _)
        replace ph0_0 := ph0_0.frame RTArg.lasts fr5 (Dj.empty _)
        replace k1 := k1.frame RTBind.lasts fr5 (Dj.empty _) (Dj.empty _)
        obtain ⟨x8, hx8, h⟩ := bind_some h
        refine le' (e_appF RTBind.lasts RTBind.one RTBind.flat Sl_79 Ei_194 rfl rfl rfl rfl rfl (js := [1]) (Rr := [ob v9]) rfl k1 h5.rsl hx8) rfl (fun v10 Φ_7 D2 q6 => ?_)
        obtain ⟨⟨ap5, fr6⟩, h6⟩ := q6
        replace ph2 := ph2.frame RTBind.lasts fr6 (ap5.o pa2)
        replace ph1_0 := ph1_0.frame RTVal.lasts fr6 (ap5.o pa1_0)
        replace ph0_0 := ph0_0.frame RTArg.lasts fr6 (ap5.o pa0_0)
        refine lq (q_assign rfl) rfl ?_
        refine WL.nil ?_
        refine WT.inBlock ?_
        refine WT.inBlock ?_
        refine WT.region ?_
        refine lq (q_add rfl rfl) rfl ?_
        refine lq (q_move rfl) rfl ?_
        refine WL.nil ?_
        refine WT.inLoop (WT.mono (l' := [(2, pv2), (4, .pointer (some ⟨b_2, 0, none⟩)), (8, v10), (33, pv0_0), (34, .int .i64 (p0.Args.length : Int)), (35, .int .i64 (IntKind.i64.wrap (s2 + 1)))]) (S' := St w0 Φ_7 [(b_2, .cells #[.string p1.Kind, pv1_0] 188 (0, 0))] [ob v10]) ⟨rfl, rfl, rfl, rfl, rfl, rfl, trivial⟩ (fun w1 hw => (hw.sel (js := [0]) rfl).selO (js := [3]) rfl) ?_)
        exact ih1 (Φ_7, x8, v10, IntKind.i64.wrap (s2 + 1)) ⟨h, h6, ph2, ph1_0, ph0_0⟩
      replace h := ite_f h c9
      refine WT.skip ?_
      refine WT.inBlock ?_
      refine WT.inBlock ?_
      refine WT.region ?_
      refine lq (q_add rfl rfl) rfl ?_
      refine lq (q_move rfl) rfl ?_
      refine WL.nil ?_
      refine WT.inLoop (WT.mono (l' := [(2, pv2), (4, .pointer (some ⟨b_2, 0, none⟩)), (8, u1), (33, pv0_0), (34, .int .i64 (p0.Args.length : Int)), (35, .int .i64 (IntKind.i64.wrap (s2 + 1)))]) (S' := St w0 Φ_3 [(b_2, .cells #[.string p1.Kind, pv1_0] 188 (0, 0))] [ob u1]) ⟨rfl, rfl, rfl, rfl, rfl, rfl, trivial⟩ (fun w1 hw => (hw.sel (js := [0]) rfl).selO (js := [3]) rfl) ?_)
      exact ih1 (Φ_3, s1, u1, IntKind.i64.wrap (s2 + 1)) ⟨h, k1, ph2, ph1_0, ph0_0⟩
    replace h := ite_f h c6
    refine WT.skip ?_
    refine WT.inBlock ?_
    refine WT.inBlock ?_
    refine WT.region ?_
    refine lq (q_add rfl rfl) rfl ?_
    refine lq (q_move rfl) rfl ?_
    refine WL.nil ?_
    refine WT.inLoop (WT.mono (l' := [(2, pv2), (4, .pointer (some ⟨b_2, 0, none⟩)), (8, u1), (33, pv0_0), (34, .int .i64 (p0.Args.length : Int)), (35, .int .i64 (IntKind.i64.wrap (s2 + 1)))]) (S' := St w0 Φ_3 [(b_2, .cells #[.string p1.Kind, pv1_0] 188 (0, 0))] [ob u1]) ⟨rfl, rfl, rfl, rfl, rfl, rfl, trivial⟩ (fun w1 hw => (hw.sel (js := [0]) rfl).selO (js := [2]) rfl) ?_)
    exact ih1 (Φ_3, s1, u1, IntKind.i64.wrap (s2 + 1)) ⟨h, k1, ph2, ph1_0, ph0_0⟩
  replace h := ite_f h c3
  refine WT.exit rfl ?_
  refine WT.seq ?_
  refine WT.region ?_
  refine lq (q_move rfl) rfl ?_
  refine lq (q_assign rfl) rfl ?_
  refine lq (q_assign rfl) rfl ?_
  refine WL.nil ?_
  refine WT.ret Try.func203 (resOk.two rfl rfl) (fun w1 hw => ?_)
  subst hb0
  cases h
  refine postG_of_St (js := [0]) hw rfl ⟨u1, rfl, rfl, k1⟩
theorem m_i_hitsIn_ok {Φ : Hp} {w : World} (hΦ : In Φ w) (N : Nat) (p0 : TPat) (p1 : TStore) (p2 : (List TBind)) {pv0_0 : Value} {pG0_0 : List Nat} {pv1_0 : Value} {pG1_0 : List Nat} {pv2 : Value} {pG2 : List Nat} (ph0_0 : RSl RTArg 5 Φ pG0_0 pv0_0 p0.Args) (ph1_0 : RSl RTItem 3 Φ pG1_0 pv1_0 p1.Items) (ph2 : RSl RTBind 4 Φ pG2 pv2 p2) {r : Int} (h : m_i_hitsIn N p0 p1 p2 = some r) :
    Calls Try.prog 131 [.agg [.string p0.Kind, pv0_0, .bool p0.Not].toArray, .agg [pv1_0, .int .i64 p1.Next].toArray, pv2].toArray w (Post (.int .i64 r) w) := by
  refine enter Try.func131 rfl Try.ntmps131 rfl (St.start0 hΦ) ?_
  have pa0_0 : Old ⟨w, [], Φ⟩ pG0_0 := Old.mk hΦ ph0_0.kn (Dj.empty _)
  have pa1_0 : Old ⟨w, [], Φ⟩ pG1_0 := Old.mk hΦ ph1_0.kn (Dj.empty _)
  have pa2 : Old ⟨w, [], Φ⟩ pG2 := Old.mk hΦ ph2.kn (Dj.empty _)
  revert pa0_0 pa1_0 pa2
  generalize hb0 : (⟨w, [], Φ⟩ : Base) = w0
  intro pa0_0 pa1_0 pa2
  unfold m_i_hitsIn at h
  refine WT.seq ?_
  refine WT.region ?_
  refine ln (n_box (C := #[.string p0.Kind, pv0_0, .bool p0.Not]) rfl rfl) rfl (fun b_1 => ?_)
  refine ln (n_box (C := #[pv1_0, .int .i64 p1.Next]) rfl rfl) rfl (fun b_2 => ?_)
  refine lq (q_assign rfl) rfl ?_
  refine WL.nil ?_
  refine WT.seq ?_
  refine WT.region ?_
  refine lq (q_assign rfl) rfl ?_
  refine WL.nil ?_
  refine WT.seq ?_
  refine WT.seq ?_
  refine WT.region ?_
  refine lq (q_fieldAddr Fld_101_0 rfl) rfl ?_
  refine lq (q_load1 T1_99 rfl (fun w1 hw => hw.rgO (i := 0) rfl 0 1 [pv1_0] rfl)) rfl ?_
  refine lq (q_lenR Sl_99 rfl rfl ph1_0) rfl ?_
  refine lq (q_move rfl) rfl ?_
  refine WL.nil ?_
  refine WT.block ?_
  refine WT.loop ?_
  refine WT.mono (l' := [(2, pv2), (3, .pointer (some ⟨b_1, 0, none⟩)), (7, .int .i64 0), (13, pv1_0), (14, .int .i64 (p1.Items.length : Int)), (15, .int .i64 0)]) (S' := St w0 Φ [(b_1, .cells #[.string p0.Kind, pv0_0, .bool p0.Not] 121 (0, 0))] []) ⟨rfl, rfl, rfl, rfl, rfl, rfl, trivial⟩ (fun w1 hw => (hw.sel (js := []) rfl).selO (js := [1]) rfl) ?_
  refine loop_ind (σ := Hp × Int × Int) (fun s => [(2, pv2), (3, .pointer (some ⟨b_1, 0, none⟩)), (7, .int .i64 s.2.1), (13, pv1_0), (14, .int .i64 (p1.Items.length : Int)), (15, .int .i64 s.2.2)]) (fun s => St w0 s.1 [(b_1, .cells #[.string p0.Kind, pv0_0, .bool p0.Not] 121 (0, 0))] []) (fun m s => m_i_hitsIn_l1 N p0 p1 p2 m s.2.1 s.2.2 = some r ∧ (RSl RTBind 4 s.1 pG2 pv2 p2) ∧ (RSl RTArg 5 s.1 pG0_0 pv0_0 p0.Args) ∧ (RSl RTItem 3 s.1 pG1_0 pv1_0 p1.Items)) (fun s hm => none_ne (show (none : Option (Int)) = some r from hm.1)) (fun n1 ih1 s hm => ?_) N (Φ, 0, 0) ⟨h, ph2, ph0_0, ph1_0⟩
  obtain ⟨Φ_1, s1, s2⟩ := s
  obtain ⟨h, ph2, ph0_0, ph1_0⟩ := hm
  replace h : m_i_hitsIn_l1 N p0 p1 p2 (n1 + 1) s1 s2 = some r := h
  replace ph2 : RSl RTBind 4 Φ_1 pG2 pv2 p2 := ph2
  replace ph0_0 : RSl RTArg 5 Φ_1 pG0_0 pv0_0 p0.Args := ph0_0
  replace ph1_0 : RSl RTItem 3 Φ_1 pG1_0 pv1_0 p1.Items := ph1_0
  show WT _ _ [(2, pv2), (3, .pointer (some ⟨b_1, 0, none⟩)), (7, .int .i64 s1), (13, pv1_0), (14, .int .i64 (p1.Items.length : Int)), (15, .int .i64 s2)] (St w0 Φ_1 [(b_1, .cells #[.string p0.Kind, pv0_0, .bool p0.Not] 121 (0, 0))] [])
  unfold m_i_hitsIn_l1 at h
  refine WT.seq ?_
  refine WT.region ?_
  refine lq (q_lss rfl rfl) rfl ?_
  refine WL.nil ?_
  refine WT.seq ?_
  refine WT.cond rfl (fun c1 => ?_) (fun c1 => ?_)
  · replace h := ite_t h c1
    refine WT.skip ?_
    refine WT.seq ?_
    refine WT.block ?_
    refine WT.seq ?_
    refine WT.region ?_
    obtain ⟨x1, hx1, h⟩ := bind_some h
    obtain ⟨cs1, F1, -, g1, hb1, hs1, r1⟩ := ph1_0.el (idx_some hx1).2.2
    obtain ⟨v1, G1, rfl, hq1, h1⟩ := r1
    obtain rfl := hq1.symm
    refine lq (q_indexAddr Sl_99 rfl rfl ph1_0 hx1) rfl ?_
    refine lq (q_loadN Tn_190 rfl (fun w1 hw => (g1.of_eq 0 3 rfl rfl : rg _ _ _ [.int .i64 x1.Id, .string x1.F.Kind, v1]).rangeAt hw.fro) rfl) rfl ?_
    refine ln (n_alloc (C := #[.int .i64 0, .string (⟨#[]⟩ : ByteArray), .slice none 0 0]) Zr_190 rfl) rfl (fun b_3 => ?_)
    refine ls (s_store (i := 0) (vs := [.int .i64 x1.Id, .string x1.F.Kind, v1]) (C' := [.int .i64 x1.Id, .string x1.F.Kind, v1]) (O' := [(b_3, .cells #[.int .i64 x1.Id, .string x1.F.Kind, v1] 190 (0, 0)), (b_1, .cells #[.string p0.Kind, pv0_0, .bool p0.Not] 121 (0, 0))]) Sz_190 rfl rfl rfl rfl rfl rfl ⟨rfl, rfl, h1.one, trivial⟩ rfl rfl) rfl ?_
    refine WL.nil ?_
    refine WT.seq ?_
    refine WT.region ?_
    refine lq (q_loadN Tn_121 rfl (fun w1 hw => hw.rgO (i := 1) rfl 0 3 [.string p0.Kind, pv0_0, .bool p0.Not] rfl) rfl) rfl ?_
    refine lq (q_fieldAddr Fld_190_1 rfl) rfl ?_
    refine lq (q_loadN Tn_188 rfl (fun w1 hw => hw.rgO (i := 0) rfl 1 2 [.string x1.F.Kind, v1] rfl) rfl) rfl ?_
    refine lq (q_move rfl) rfl ?_
    obtain ⟨x2, hx2, h⟩ := bind_some h
    refine lc (k_call (js := []) (R := []) Fun_203 rfl rfl (fun w1 hw ap hl => m_i_MatchPat_ok hw.fro N p0 x1.F p2 ph0_0 h1 ph2  hx2)) rfl (fun v2 Φ_2 F2 q1 => ?_)
    obtain ⟨ap1, fr1, v3, rfl, rfl, h2⟩ := q1
    replace ph2 := ph2.frame RTBind.lasts fr1 (ap1.o pa2)
    replace ph0_0 := ph0_0.frame RTArg.lasts fr1 (ap1.o pa0_0)
    replace ph1_0 := ph1_0.frame RTItem.lasts fr1 (ap1.o pa1_0)
    refine lq (q_move rfl) rfl ?_
    refine lq (q_extract rfl rfl) rfl ?_
    refine lq (q_extract rfl rfl) rfl ?_
    refine lq (q_assign rfl) rfl ?_
    refine lq (q_assign rfl) rfl ?_
    refine WL.nil ?_
    refine WT.seq ?_
    refine WT.region ?_
    refine lq (q_move rfl) rfl ?_
    refine WL.nil ?_
    refine WT.cond rfl (fun c2 => ?_) (fun c2 => ?_)
    · replace h := ite_t h c2
      refine WT.region ?_
      refine lq (q_move rfl) rfl ?_
      refine lq (q_add rfl rfl) rfl ?_
      refine lq (q_assign rfl) rfl ?_
      refine WL.nil ?_
      refine WT.inBlock ?_
      refine WT.region ?_
      refine lq (q_add rfl rfl) rfl ?_
      refine lq (q_move rfl) rfl ?_
      refine WL.nil ?_
      refine WT.inLoop (WT.mono (l' := [(2, pv2), (3, .pointer (some ⟨b_1, 0, none⟩)), (7, .int .i64 (IntKind.i64.wrap (s1 + 1))), (13, pv1_0), (14, .int .i64 (p1.Items.length : Int)), (15, .int .i64 (IntKind.i64.wrap (s2 + 1)))]) (S' := St w0 Φ_2 [(b_1, .cells #[.string p0.Kind, pv0_0, .bool p0.Not] 121 (0, 0))] []) ⟨rfl, rfl, rfl, rfl, rfl, rfl, trivial⟩ (fun w1 hw => (hw.sel (js := []) rfl).selO (js := [1]) rfl) ?_)
      exact ih1 (Φ_2, IntKind.i64.wrap (s1 + 1), IntKind.i64.wrap (s2 + 1)) ⟨h, ph2, ph0_0, ph1_0⟩
    replace h := ite_f h c2
    refine WT.skip ?_
    refine WT.inBlock ?_
    refine WT.region ?_
    refine lq (q_add rfl rfl) rfl ?_
    refine lq (q_move rfl) rfl ?_
    refine WL.nil ?_
    refine WT.inLoop (WT.mono (l' := [(2, pv2), (3, .pointer (some ⟨b_1, 0, none⟩)), (7, .int .i64 s1), (13, pv1_0), (14, .int .i64 (p1.Items.length : Int)), (15, .int .i64 (IntKind.i64.wrap (s2 + 1)))]) (S' := St w0 Φ_2 [(b_1, .cells #[.string p0.Kind, pv0_0, .bool p0.Not] 121 (0, 0))] []) ⟨rfl, rfl, rfl, rfl, rfl, rfl, trivial⟩ (fun w1 hw => (hw.sel (js := []) rfl).selO (js := [1]) rfl) ?_)
    exact ih1 (Φ_2, s1, IntKind.i64.wrap (s2 + 1)) ⟨h, ph2, ph0_0, ph1_0⟩
  replace h := ite_f h c1
  refine WT.exit rfl ?_
  refine WT.seq ?_
  refine WT.region ?_
  refine lq (q_move rfl) rfl ?_
  refine lq (q_assign rfl) rfl ?_
  refine WL.nil ?_
  refine WT.ret Try.func131 (resOk.one rfl) (fun w1 hw => ?_)
  subst hb0
  cases h
  exact post_of_St hw
theorem m_i_Blocked_ok {Φ : Hp} {w : World} (hΦ : In Φ w) (N : Nat) (p0 : TRule) (p1 : TStore) (p2 : (List TBind)) {pv0_0 : Value} {pG0_0 : List Nat} {pv0_1 : Value} {pG0_1 : List Nat} {pv0_2 : Value} {pG0_2 : List Nat} {pv1_0 : Value} {pG1_0 : List Nat} {pv2 : Value} {pG2 : List Nat} (ph0_0 : RSl RTPat 3 Φ pG0_0 pv0_0 p0.Pats) (ph0_1 : RSl RTCond 11 Φ pG0_1 pv0_1 p0.Conds) (ph0_2 : RSl RTAct 5 Φ pG0_2 pv0_2 p0.Acts) (ph1_0 : RSl RTItem 3 Φ pG1_0 pv1_0 p1.Items) (ph2 : RSl RTBind 4 Φ pG2 pv2 p2) {r : Bool} (h : m_i_Blocked N p0 p1 p2 = some r) :
    Calls Try.prog 56 [.agg [.string p0.Name, .int .i64 p0.Sal, pv0_0, pv0_1, pv0_2].toArray, .agg [pv1_0, .int .i64 p1.Next].toArray, pv2].toArray w (Post (.bool r) w) := by
  refine enter Try.func56 rfl Try.ntmps56 rfl (St.start0 hΦ) ?_
  generalize hb0 : (⟨w, [], Φ⟩ : Base) = w0
  unfold m_i_Blocked at h
  refine WT.seq ?_
  refine WT.region ?_
  refine ln (n_box (C := #[.string p0.Name, .int .i64 p0.Sal, pv0_0, pv0_1, pv0_2]) rfl rfl) rfl (fun b_1 => ?_)
  refine ln (n_box (C := #[pv1_0, .int .i64 p1.Next]) rfl rfl) rfl (fun b_2 => ?_)
  refine lq (q_assign rfl) rfl ?_
  refine WL.nil ?_
  refine WT.seq ?_
  refine WT.seq ?_
  refine WT.region ?_
  refine lq (q_fieldAddr Fld_66_2 rfl) rfl ?_
  refine lq (q_load1 T1_62 rfl (fun w1 hw => hw.rgO (i := 1) rfl 2 1 [pv0_0] rfl)) rfl ?_
  refine lq (q_lenR Sl_62 rfl rfl ph0_0) rfl ?_
  refine lq (q_move rfl) rfl ?_
  refine WL.nil ?_
  refine WT.block ?_
  refine WT.loop ?_
  refine WT.mono (l' := [(2, pv2), (4, .pointer (some ⟨b_2, 0, none⟩)), (10, pv0_0), (11, .int .i64 (p0.Pats.length : Int)), (12, .int .i64 0)]) (S' := St w0 Φ [(b_2, .cells #[pv1_0, .int .i64 p1.Next] 101 (0, 0))] []) ⟨rfl, rfl, rfl, rfl, rfl, trivial⟩ (fun w1 hw => (hw.sel (js := []) rfl).selO (js := [0]) rfl) ?_
  refine loop_ind (σ := Int) (fun s => [(2, pv2), (4, .pointer (some ⟨b_2, 0, none⟩)), (10, pv0_0), (11, .int .i64 (p0.Pats.length : Int)), (12, .int .i64 s)]) (fun s => St w0 Φ [(b_2, .cells #[pv1_0, .int .i64 p1.Next] 101 (0, 0))] []) (fun m s => m_i_Blocked_l1 N p0 p1 p2 m s = some r) (fun s hm => none_ne (show (none : Option (Bool)) = some r from hm)) (fun n1 ih1 s hm => ?_) N (0) h
  revert hm; revert s; intro s1 hm
  have h : m_i_Blocked_l1 N p0 p1 p2 (n1 + 1) s1 = some r := hm
  show WT _ _ [(2, pv2), (4, .pointer (some ⟨b_2, 0, none⟩)), (10, pv0_0), (11, .int .i64 (p0.Pats.length : Int)), (12, .int .i64 s1)] (St w0 Φ [(b_2, .cells #[pv1_0, .int .i64 p1.Next] 101 (0, 0))] [])
  unfold m_i_Blocked_l1 at h
  refine WT.seq ?_
  refine WT.region ?_
  refine lq (q_lss rfl rfl) rfl ?_
  refine WL.nil ?_
  refine WT.seq ?_
  refine WT.cond rfl (fun c1 => ?_) (fun c1 => ?_)
  · replace h := ite_t h c1
    refine WT.skip ?_
    refine WT.seq ?_
    refine WT.block ?_
    refine WT.seq ?_
    refine WT.region ?_
    obtain ⟨x1, hx1, h⟩ := bind_some h
    obtain ⟨cs1, F1, -, g1, hb1, hs1, r1⟩ := ph0_0.el (idx_some hx1).2.2
    obtain ⟨v1, G1, rfl, hq1, h1⟩ := r1
    obtain rfl := hq1.symm
    refine lq (q_indexAddr Sl_62 rfl rfl ph0_0 hx1) rfl ?_
    refine lq (q_loadN Tn_121 rfl (fun w1 hw => (g1.of_eq 0 3 rfl rfl : rg _ _ _ [.string x1.Kind, v1, .bool x1.Not]).rangeAt hw.fro) rfl) rfl ?_
    refine ln (n_alloc (C := #[.string (⟨#[]⟩ : ByteArray), .slice none 0 0, .bool false]) Zr_121 rfl) rfl (fun b_3 => ?_)
    refine ls (s_store (i := 0) (vs := [.string x1.Kind, v1, .bool x1.Not]) (C' := [.string x1.Kind, v1, .bool x1.Not]) (O' := [(b_3, .cells #[.string x1.Kind, v1, .bool x1.Not] 121 (0, 0)), (b_2, .cells #[pv1_0, .int .i64 p1.Next] 101 (0, 0))]) Sz_121 rfl rfl rfl rfl rfl rfl ⟨rfl, h1.one, rfl, trivial⟩ rfl rfl) rfl ?_
    refine WL.nil ?_
    refine WT.seq ?_
    refine WT.region ?_
    refine lq (q_fieldAddr Fld_121_2 rfl) rfl ?_
    refine lq (q_load1 T1_4 rfl (fun w1 hw => hw.rgO (i := 0) rfl 2 1 [.bool x1.Not] rfl)) rfl ?_
    refine lq (q_move rfl) rfl ?_
    obtain ⟨b1, hb_1, h⟩ := bind_some h
    refine WL.cutN 6 [(24, .bool b1), (2, pv2), (4, .pointer (some ⟨b_2, 0, none⟩)), (10, pv0_0), (11, .int .i64 (p0.Pats.length : Int)), (12, .int .i64 s1)] ?_ (fun K => ?_)
    rotate_left
    · refine WL.split (d := 18) rfl (fun c2 => ?_) (fun c2 => ?_)
      · replace hb_1 := ite_t hb_1 c2
        refine WL.yes rfl rfl ?_
        refine lq (q_loadN Tn_121 rfl (fun w1 hw => hw.rgO (i := 0) rfl 0 3 [.string x1.Kind, v1, .bool x1.Not] rfl) rfl) rfl ?_
        refine WL.yes rfl rfl ?_
        refine lq (q_loadN Tn_101 rfl (fun w1 hw => hw.rgO (i := 1) rfl 0 2 [pv1_0, .int .i64 p1.Next] rfl) rfl) rfl ?_
        refine WL.yes rfl rfl ?_
        refine lq (q_move rfl) rfl ?_
        refine WL.yes rfl rfl ?_
        obtain ⟨x2, hx2, hb_1⟩ := bind_some hb_1
        refine lp (p_call Fun_131 rfl (fun w1 hw => m_i_hitsIn_ok hw.fro N x1 p1 p2 h1 ph1_0 ph2 hx2)) rfl ?_
        refine WL.yes rfl rfl ?_
        refine lq (q_gtr rfl rfl) rfl ?_
        refine WL.q (q_pick1 rfl rfl) rfl rfl rfl ?_
        cases hb_1
        exact WL.keep (by exact ⟨rfl, rfl, rfl, rfl, rfl, rfl, trivial⟩) K
      · replace hb_1 := ite_f hb_1 c2
        refine WL.no rfl rfl rfl rfl ?_
        refine WL.no rfl rfl rfl rfl ?_
        refine WL.no rfl rfl rfl rfl ?_
        refine WL.no rfl rfl rfl rfl ?_
        refine WL.no rfl rfl rfl rfl ?_
        refine WL.q (q_pick0 rfl rfl) rfl rfl rfl ?_
        cases hb_1
        exact WL.keep (by exact ⟨rfl, rfl, rfl, rfl, rfl, rfl, trivial⟩) K
    refine WL.nil ?_
    refine WT.cond rfl (fun c3 => ?_) (fun c3 => ?_)
    · replace h := ite_t h c3
      refine WT.seq ?_
      refine WT.region ?_
      refine lq (q_assign rfl) rfl ?_
      refine WL.nil ?_
      refine WT.ret Try.func56 (resOk.one rfl) (fun w1 hw => ?_)
      subst hb0
      cases h
      exact post_of_St hw
    replace h := ite_f h c3
    refine WT.skip ?_
    refine WT.inBlock ?_
    refine WT.region ?_
    refine lq (q_add rfl rfl) rfl ?_
    refine lq (q_move rfl) rfl ?_
    refine WL.nil ?_
    refine WT.inLoop (WT.mono (l' := [(2, pv2), (4, .pointer (some ⟨b_2, 0, none⟩)), (10, pv0_0), (11, .int .i64 (p0.Pats.length : Int)), (12, .int .i64 (IntKind.i64.wrap (s1 + 1)))]) (S' := St w0 Φ [(b_2, .cells #[pv1_0, .int .i64 p1.Next] 101 (0, 0))] []) ⟨rfl, rfl, rfl, rfl, rfl, trivial⟩ (fun w1 hw => (hw.sel (js := []) rfl).selO (js := [1]) rfl) ?_)
    exact ih1 (IntKind.i64.wrap (s1 + 1)) h
  replace h := ite_f h c1
  refine WT.exit rfl ?_
  refine WT.seq ?_
  refine WT.region ?_
  refine lq (q_assign rfl) rfl ?_
  refine WL.nil ?_
  refine WT.ret Try.func56 (resOk.one rfl) (fun w1 hw => ?_)
  subst hb0
  cases h
  exact post_of_St hw
theorem m_l_eqValS_ok {Φ : Hp} {w : World} (hΦ : In Φ w) (N : Nat) (p0 : (List TVal)) (p1 : (List TVal)) {pv0 : Value} {pG0 : List Nat} {pv1 : Value} {pG1 : List Nat} (ph0 : RSl RTVal 3 Φ pG0 pv0 p0) (ph1 : RSl RTVal 3 Φ pG1 pv1 p1) {r : Bool} (h : m_l_eqValS N p0 p1 = some r) :
    Calls Try.prog 224 [pv0, pv1].toArray w (Post (.bool r) w) := by
  refine enter Try.func224 rfl Try.ntmps224 rfl (St.start0 hΦ) ?_
  generalize hb0 : (⟨w, [], Φ⟩ : Base) = w0
  unfold m_l_eqValS at h
  refine WT.seq ?_
  refine WT.region ?_
  refine lq (q_assign rfl) rfl ?_
  refine WL.nil ?_
  refine WT.seq ?_
  refine WT.seq ?_
  refine WT.region ?_
  refine lq (q_move rfl) rfl ?_
  refine lq (q_lenR Sl_112 rfl rfl ph0) rfl ?_
  refine lq (q_move rfl) rfl ?_
  refine lq (q_lenR Sl_112 rfl rfl ph1) rfl ?_
  refine lq (q_neq rfl rfl) rfl ?_
  refine WL.nil ?_
  refine WT.cond rfl (fun c1 => ?_) (fun c1 => ?_)
  · replace h := ite_t h c1
    refine WT.seq ?_
    refine WT.region ?_
    refine lq (q_assign rfl) rfl ?_
    refine WL.nil ?_
    refine WT.ret Try.func224 (resOk.one rfl) (fun w1 hw => ?_)
    subst hb0
    cases h
    exact post_of_St hw
  replace h := ite_f h c1
  refine WT.skip ?_
  refine WT.seq ?_
  refine WT.seq ?_
  refine WT.region ?_
  refine lq (q_assign rfl) rfl ?_
  refine WL.nil ?_
  refine WT.block ?_
  refine WT.loop ?_
  refine WT.mono (l' := [(0, pv0), (1, pv1), (5, .int .i64 0)]) (S' := St w0 Φ [] []) ⟨rfl, rfl, rfl, trivial⟩ (fun w1 hw => (hw.sel (js := []) rfl).selO (js := []) rfl) ?_
  refine loop_ind (σ := Int) (fun s => [(0, pv0), (1, pv1), (5, .int .i64 s)]) (fun s => St w0 Φ [] []) (fun m s => m_l_eqValS_l1 N p0 p1 m s = some r) (fun s hm => none_ne (show (none : Option (Bool)) = some r from hm)) (fun n1 ih1 s hm => ?_) N (0) h
  revert hm; revert s; intro s1 hm
  have h : m_l_eqValS_l1 N p0 p1 (n1 + 1) s1 = some r := hm
  show WT _ _ [(0, pv0), (1, pv1), (5, .int .i64 s1)] (St w0 Φ [] [])
  unfold m_l_eqValS_l1 at h
  refine WT.seq ?_
  refine WT.seq ?_
  refine WT.region ?_
  refine lq (q_move rfl) rfl ?_
  refine lq (q_move rfl) rfl ?_
  refine lq (q_lenR Sl_112 rfl rfl ph0) rfl ?_
  refine lq (q_lss rfl rfl) rfl ?_
  refine WL.nil ?_
  refine WT.cond rfl (fun c2 => ?_) (fun c2 => ?_)
  · replace h := ite_t h c2
    refine WT.skip ?_
    refine WT.seq ?_
    refine WT.block ?_
    refine WT.seq ?_
    refine WT.draw mixed (by kernel_rfl) (fun _ h => h.drew) ?_
    refine qq (q_move rfl) rfl ?_
    refine qq (q_move rfl) rfl ?_
    obtain ⟨x1, hx1, h⟩ := bind_some h
    obtain ⟨cs1, F1, -, g1, hb1, hs1, r1⟩ := ph0.el (idx_some hx1).2.2
    obtain ⟨rfl, -⟩ := r1
    refine qq (q_indexAddr Sl_112 rfl rfl ph0 hx1) rfl ?_
    refine qq (q_loadN Tn_192 rfl (fun w1 hw => (g1.of_eq 0 3 rfl rfl : rg _ _ _ [.int .i64 x1.K, .int .i64 x1.N, .string x1.S]).rangeAt hw.fro) rfl) rfl ?_
    refine qq (q_move rfl) rfl ?_
    refine qq (q_move rfl) rfl ?_
    obtain ⟨x2, hx2, h⟩ := bind_some h
    obtain ⟨cs2, F2, -, g2, hb2, hs2, r2⟩ := ph1.el (idx_some hx2).2.2
    obtain ⟨rfl, -⟩ := r2
    refine qq (q_indexAddr Sl_112 rfl rfl ph1 hx2) rfl ?_
    refine qq (q_loadN Tn_192 rfl (fun w1 hw => (g2.of_eq 0 3 rfl rfl : rg _ _ _ [.int .i64 x2.K, .int .i64 x2.N, .string x2.S]).rangeAt hw.fro) rfl) rfl ?_
    obtain ⟨x3, hx3, h⟩ := bind_some h
    refine qp (p_call Fun_205 rfl (fun w1 hw => m_l_eqVal_ok hw.fro N x1 x2 hx3)) rfl ?_
    refine qq (q_not rfl) rfl ?_
    refine WQ.nil ?_
    refine WT.cond rfl (fun c3 => ?_) (fun c3 => ?_)
    · replace h := ite_t h c3
      refine WT.seq ?_
      refine WT.region ?_
      refine lq (q_assign rfl) rfl ?_
      refine WL.nil ?_
      refine WT.ret Try.func224 (resOk.one rfl) (fun w1 hw => ?_)
      subst hb0
      cases h
      exact post_of_St hw
    replace h := ite_f h c3
    refine WT.skip ?_
    refine WT.inBlock ?_
    refine WT.region ?_
    refine lq (q_move rfl) rfl ?_
    refine lq (q_add rfl rfl) rfl ?_
    refine lq (q_assign rfl) rfl ?_
    refine WL.nil ?_
    refine WT.inLoop (WT.mono (l' := [(0, pv0), (1, pv1), (5, .int .i64 (IntKind.i64.wrap (s1 + 1)))]) (S' := St w0 Φ [] []) ⟨rfl, rfl, rfl, trivial⟩ (fun w1 hw => (hw.sel (js := []) rfl).selO (js := []) rfl) ?_)
    exact ih1 (IntKind.i64.wrap (s1 + 1)) h
  replace h := ite_f h c2
  refine WT.exit rfl ?_
  refine WT.seq ?_
  refine WT.region ?_
  refine lq (q_assign rfl) rfl ?_
  refine WL.nil ?_
  refine WT.ret Try.func224 (resOk.one rfl) (fun w1 hw => ?_)
  subst hb0
  cases h
  exact post_of_St hw
theorem m_l_eqFact_ok {Φ : Hp} {w : World} (hΦ : In Φ w) (N : Nat) (p0 : TFact) (p1 : TFact) {pv0_0 : Value} {pG0_0 : List Nat} {pv1_0 : Value} {pG1_0 : List Nat} (ph0_0 : RSl RTVal 3 Φ pG0_0 pv0_0 p0.Fields) (ph1_0 : RSl RTVal 3 Φ pG1_0 pv1_0 p1.Fields) {r : Bool} (h : m_l_eqFact N p0 p1 = some r) :
    Calls Try.prog 255 [.agg [.string p0.Kind, pv0_0].toArray, .agg [.string p1.Kind, pv1_0].toArray].toArray w (Post (.bool r) w) := by
  refine enter Try.func255 rfl Try.ntmps255 rfl (St.start0 hΦ) ?_
  unfold m_l_eqFact at h
  refine WT.seq ?_
  refine WT.region ?_
  refine ln (n_box (C := #[.string p0.Kind, pv0_0]) rfl rfl) rfl (fun b_1 => ?_)
  refine ln (n_box (C := #[.string p1.Kind, pv1_0]) rfl rfl) rfl (fun b_2 => ?_)
  refine lq (q_assign rfl) rfl ?_
  refine WL.nil ?_
  refine WT.seq ?_
  refine WT.seq ?_
  refine WT.region ?_
  refine lq (q_fieldAddr Fld_188_0 rfl) rfl ?_
  refine lq (q_load1 T1_9 rfl (fun w1 hw => hw.rgO (i := 1) rfl 0 1 [.string p0.Kind] rfl)) rfl ?_
  refine lq (q_fieldAddr Fld_188_0 rfl) rfl ?_
  refine lq (q_load1 T1_9 rfl (fun w1 hw => hw.rgO (i := 0) rfl 0 1 [.string p1.Kind] rfl)) rfl ?_
  refine lq (q_sne rfl rfl) rfl ?_
  refine WL.nil ?_
  refine WT.cond rfl (fun c1 => ?_) (fun c1 => ?_)
  · replace h := ite_t h c1
    refine WT.seq ?_
    refine WT.region ?_
    refine lq (q_assign rfl) rfl ?_
    refine WL.nil ?_
    refine WT.ret Try.func255 (resOk.one rfl) (fun w1 hw => ?_)
    cases h
    exact post_of_St hw
  replace h := ite_f h c1
  refine WT.skip ?_
  refine WT.seq ?_
  refine WT.seq ?_
  refine WT.region ?_
  refine lq (q_fieldAddr Fld_188_1 rfl) rfl ?_
  refine lq (q_load1 T1_112 rfl (fun w1 hw => hw.rgO (i := 1) rfl 1 1 [pv0_0] rfl)) rfl ?_
  refine lq (q_fieldAddr Fld_188_1 rfl) rfl ?_
  refine lq (q_load1 T1_112 rfl (fun w1 hw => hw.rgO (i := 0) rfl 1 1 [pv1_0] rfl)) rfl ?_
  obtain ⟨x1, hx1, h⟩ := bind_some h
  refine lp (p_call Fun_224 rfl (fun w1 hw => m_l_eqValS_ok hw.fro N p0.Fields p1.Fields ph0_0 ph1_0 hx1)) rfl ?_
  refine lq (q_not rfl) rfl ?_
  refine WL.nil ?_
  refine WT.cond rfl (fun c2 => ?_) (fun c2 => ?_)
  · replace h := ite_t h c2
    refine WT.seq ?_
    refine WT.region ?_
    refine lq (q_assign rfl) rfl ?_
    refine WL.nil ?_
    refine WT.ret Try.func255 (resOk.one rfl) (fun w1 hw => ?_)
    cases h
    exact post_of_St hw
  replace h := ite_f h c2
  refine WT.skip ?_
  refine WT.seq ?_
  refine WT.region ?_
  refine lq (q_assign rfl) rfl ?_
  refine WL.nil ?_
  refine WT.ret Try.func255 (resOk.one rfl) (fun w1 hw => ?_)
  cases h
  exact post_of_St hw
theorem m_l_eqItem_ok {Φ : Hp} {w : World} (hΦ : In Φ w) (N : Nat) (p0 : TItem) (p1 : TItem) {pv0_0 : Value} {pG0_0 : List Nat} {pv1_0 : Value} {pG1_0 : List Nat} (ph0_0 : RSl RTVal 3 Φ pG0_0 pv0_0 p0.F.Fields) (ph1_0 : RSl RTVal 3 Φ pG1_0 pv1_0 p1.F.Fields) {r : Bool} (h : m_l_eqItem N p0 p1 = some r) :
    Calls Try.prog 204 [.agg [.int .i64 p0.Id, .string p0.F.Kind, pv0_0].toArray, .agg [.int .i64 p1.Id, .string p1.F.Kind, pv1_0].toArray].toArray w (Post (.bool r) w) := by
  refine enter Try.func204 rfl Try.ntmps204 rfl (St.start0 hΦ) ?_
  unfold m_l_eqItem at h
  refine WT.seq ?_
  refine WT.region ?_
  refine ln (n_box (C := #[.int .i64 p0.Id, .string p0.F.Kind, pv0_0]) rfl rfl) rfl (fun b_1 => ?_)
  refine ln (n_box (C := #[.int .i64 p1.Id, .string p1.F.Kind, pv1_0]) rfl rfl) rfl (fun b_2 => ?_)
  refine lq (q_assign rfl) rfl ?_
  refine WL.nil ?_
  refine WT.seq ?_
  refine WT.seq ?_
  refine WT.region ?_
  refine lq (q_fieldAddr Fld_190_0 rfl) rfl ?_
  refine lq (q_load1 T1_3 rfl (fun w1 hw => hw.rgO (i := 1) rfl 0 1 [.int .i64 p0.Id] rfl)) rfl ?_
  refine lq (q_fieldAddr Fld_190_0 rfl) rfl ?_
  refine lq (q_load1 T1_3 rfl (fun w1 hw => hw.rgO (i := 0) rfl 0 1 [.int .i64 p1.Id] rfl)) rfl ?_
  refine lq (q_neq rfl rfl) rfl ?_
  refine WL.nil ?_
  refine WT.cond rfl (fun c1 => ?_) (fun c1 => ?_)
  · replace h := ite_t h c1
    refine WT.seq ?_
    refine WT.region ?_
    refine lq (q_assign rfl) rfl ?_
    refine WL.nil ?_
    refine WT.ret Try.func204 (resOk.one rfl) (fun w1 hw => ?_)
    cases h
    exact post_of_St hw
  replace h := ite_f h c1
  refine WT.skip ?_
  refine WT.seq ?_
  refine WT.seq ?_
  refine WT.region ?_
  refine lq (q_fieldAddr Fld_190_1 rfl) rfl ?_
  refine lq (q_loadN Tn_188 rfl (fun w1 hw => hw.rgO (i := 1) rfl 1 2 [.string p0.F.Kind, pv0_0] rfl) rfl) rfl ?_
  refine lq (q_fieldAddr Fld_190_1 rfl) rfl ?_
  refine lq (q_loadN Tn_188 rfl (fun w1 hw => hw.rgO (i := 0) rfl 1 2 [.string p1.F.Kind, pv1_0] rfl) rfl) rfl ?_
  obtain ⟨x1, hx1, h⟩ := bind_some h
  refine lp (p_call Fun_255 rfl (fun w1 hw => m_l_eqFact_ok hw.fro N p0.F p1.F ph0_0 ph1_0 hx1)) rfl ?_
  refine lq (q_not rfl) rfl ?_
  refine WL.nil ?_
  refine WT.cond rfl (fun c2 => ?_) (fun c2 => ?_)
  · replace h := ite_t h c2
    refine WT.seq ?_
    refine WT.region ?_
    refine lq (q_assign rfl) rfl ?_
    refine WL.nil ?_
    refine WT.ret Try.func204 (resOk.one rfl) (fun w1 hw => ?_)
    cases h
    exact post_of_St hw
  replace h := ite_f h c2
  refine WT.skip ?_
  refine WT.seq ?_
  refine WT.region ?_
  refine lq (q_assign rfl) rfl ?_
  refine WL.nil ?_
  refine WT.ret Try.func204 (resOk.one rfl) (fun w1 hw => ?_)
  cases h
  exact post_of_St hw
theorem m_l_eqItemS_ok {Φ : Hp} {w : World} (hΦ : In Φ w) (N : Nat) (p0 : (List TItem)) (p1 : (List TItem)) {pv0 : Value} {pG0 : List Nat} {pv1 : Value} {pG1 : List Nat} (ph0 : RSl RTItem 3 Φ pG0 pv0 p0) (ph1 : RSl RTItem 3 Φ pG1 pv1 p1) {r : Bool} (h : m_l_eqItemS N p0 p1 = some r) :
    Calls Try.prog 132 [pv0, pv1].toArray w (Post (.bool r) w) := by
  refine enter Try.func132 rfl Try.ntmps132 rfl (St.start0 hΦ) ?_
  generalize hb0 : (⟨w, [], Φ⟩ : Base) = w0
  unfold m_l_eqItemS at h
  refine WT.seq ?_
  refine WT.region ?_
  refine lq (q_assign rfl) rfl ?_
  refine WL.nil ?_
  refine WT.seq ?_
  refine WT.seq ?_
  refine WT.region ?_
  refine lq (q_move rfl) rfl ?_
  refine lq (q_lenR Sl_99 rfl rfl ph0) rfl ?_
  refine lq (q_move rfl) rfl ?_
  refine lq (q_lenR Sl_99 rfl rfl ph1) rfl ?_
  refine lq (q_neq rfl rfl) rfl ?_
  refine WL.nil ?_
  refine WT.cond rfl (fun c1 => ?_) (fun c1 => ?_)
  · replace h := ite_t h c1
    refine WT.seq ?_
    refine WT.region ?_
    refine lq (q_assign rfl) rfl ?_
    refine WL.nil ?_
    refine WT.ret Try.func132 (resOk.one rfl) (fun w1 hw => ?_)
    subst hb0
    cases h
    exact post_of_St hw
  replace h := ite_f h c1
  refine WT.skip ?_
  refine WT.seq ?_
  refine WT.seq ?_
  refine WT.region ?_
  refine lq (q_assign rfl) rfl ?_
  refine WL.nil ?_
  refine WT.block ?_
  refine WT.loop ?_
  refine WT.mono (l' := [(0, pv0), (1, pv1), (5, .int .i64 0)]) (S' := St w0 Φ [] []) ⟨rfl, rfl, rfl, trivial⟩ (fun w1 hw => (hw.sel (js := []) rfl).selO (js := []) rfl) ?_
  refine loop_ind (σ := Int) (fun s => [(0, pv0), (1, pv1), (5, .int .i64 s)]) (fun s => St w0 Φ [] []) (fun m s => m_l_eqItemS_l1 N p0 p1 m s = some r) (fun s hm => none_ne (show (none : Option (Bool)) = some r from hm)) (fun n1 ih1 s hm => ?_) N (0) h
  revert hm; revert s; intro s1 hm
  have h : m_l_eqItemS_l1 N p0 p1 (n1 + 1) s1 = some r := hm
  show WT _ _ [(0, pv0), (1, pv1), (5, .int .i64 s1)] (St w0 Φ [] [])
  unfold m_l_eqItemS_l1 at h
  refine WT.seq ?_
  refine WT.seq ?_
  refine WT.region ?_
  refine lq (q_move rfl) rfl ?_
  refine lq (q_move rfl) rfl ?_
  refine lq (q_lenR Sl_99 rfl rfl ph0) rfl ?_
  refine lq (q_lss rfl rfl) rfl ?_
  refine WL.nil ?_
  refine WT.cond rfl (fun c2 => ?_) (fun c2 => ?_)
  · replace h := ite_t h c2
    refine WT.skip ?_
    refine WT.seq ?_
    refine WT.block ?_
    refine WT.seq ?_
    refine WT.draw mixed (by kernel_rfl) (fun _ h => h.drew) ?_
    refine qq (q_move rfl) rfl ?_
    refine qq (q_move rfl) rfl ?_
    obtain ⟨x1, hx1, h⟩ := bind_some h
    obtain ⟨cs1, F1, -, g1, hb1, hs1, r1⟩ := ph0.el (idx_some hx1).2.2
    obtain ⟨v1, G1, rfl, hq1, h1⟩ := r1
    obtain rfl := hq1.symm
    refine qq (q_indexAddr Sl_99 rfl rfl ph0 hx1) rfl ?_
    refine qq (q_loadN Tn_190 rfl (fun w1 hw => (g1.of_eq 0 3 rfl rfl : rg _ _ _ [.int .i64 x1.Id, .string x1.F.Kind, v1]).rangeAt hw.fro) rfl) rfl ?_
    refine qq (q_move rfl) rfl ?_
    refine qq (q_move rfl) rfl ?_
    obtain ⟨x2, hx2, h⟩ := bind_some h
    obtain ⟨cs2, F2, -, g2, hb2, hs2, r2⟩ := ph1.el (idx_some hx2).2.2
    obtain ⟨v2, G2, rfl, hq2, h2⟩ := r2
    obtain rfl := hq2.symm
    refine qq (q_indexAddr Sl_99 rfl rfl ph1 hx2) rfl ?_
    refine qq (q_loadN Tn_190 rfl (fun w1 hw => (g2.of_eq 0 3 rfl rfl : rg _ _ _ [.int .i64 x2.Id, .string x2.F.Kind, v2]).rangeAt hw.fro) rfl) rfl ?_
    obtain ⟨x3, hx3, h⟩ := bind_some h
    refine qp (p_call Fun_204 rfl (fun w1 hw => m_l_eqItem_ok hw.fro N x1 x2 h1 h2 hx3)) rfl ?_
    refine qq (q_not rfl) rfl ?_
    refine WQ.nil ?_
    refine WT.cond rfl (fun c3 => ?_) (fun c3 => ?_)
    · replace h := ite_t h c3
      refine WT.seq ?_
      refine WT.region ?_
      refine lq (q_assign rfl) rfl ?_
      refine WL.nil ?_
      refine WT.ret Try.func132 (resOk.one rfl) (fun w1 hw => ?_)
      subst hb0
      cases h
      exact post_of_St hw
    replace h := ite_f h c3
    refine WT.skip ?_
    refine WT.inBlock ?_
    refine WT.region ?_
    refine lq (q_move rfl) rfl ?_
    refine lq (q_add rfl rfl) rfl ?_
    refine lq (q_assign rfl) rfl ?_
    refine WL.nil ?_
    refine WT.inLoop (WT.mono (l' := [(0, pv0), (1, pv1), (5, .int .i64 (IntKind.i64.wrap (s1 + 1)))]) (S' := St w0 Φ [] []) ⟨rfl, rfl, rfl, trivial⟩ (fun w1 hw => (hw.sel (js := []) rfl).selO (js := []) rfl) ?_)
    exact ih1 (IntKind.i64.wrap (s1 + 1)) h
  replace h := ite_f h c2
  refine WT.exit rfl ?_
  refine WT.seq ?_
  refine WT.region ?_
  refine lq (q_assign rfl) rfl ?_
  refine WL.nil ?_
  refine WT.ret Try.func132 (resOk.one rfl) (fun w1 hw => ?_)
  subst hb0
  cases h
  exact post_of_St hw
theorem m_l_eqStore_ok {Φ : Hp} {w : World} (hΦ : In Φ w) (N : Nat) (p0 : TStore) (p1 : TStore) {pv0_0 : Value} {pG0_0 : List Nat} {pv1_0 : Value} {pG1_0 : List Nat} (ph0_0 : RSl RTItem 3 Φ pG0_0 pv0_0 p0.Items) (ph1_0 : RSl RTItem 3 Φ pG1_0 pv1_0 p1.Items) {r : Bool} (h : m_l_eqStore N p0 p1 = some r) :
    Calls Try.prog 57 [.agg [pv0_0, .int .i64 p0.Next].toArray, .agg [pv1_0, .int .i64 p1.Next].toArray].toArray w (Post (.bool r) w) := by
  refine enter Try.func57 rfl Try.ntmps57 rfl (St.start0 hΦ) ?_
  unfold m_l_eqStore at h
  refine WT.seq ?_
  refine WT.region ?_
  refine ln (n_box (C := #[pv0_0, .int .i64 p0.Next]) rfl rfl) rfl (fun b_1 => ?_)
  refine ln (n_box (C := #[pv1_0, .int .i64 p1.Next]) rfl rfl) rfl (fun b_2 => ?_)
  refine lq (q_assign rfl) rfl ?_
  refine WL.nil ?_
  refine WT.seq ?_
  refine WT.seq ?_
  refine WT.region ?_
  refine lq (q_fieldAddr Fld_101_0 rfl) rfl ?_
  refine lq (q_load1 T1_99 rfl (fun w1 hw => hw.rgO (i := 1) rfl 0 1 [pv0_0] rfl)) rfl ?_
  refine lq (q_fieldAddr Fld_101_0 rfl) rfl ?_
  refine lq (q_load1 T1_99 rfl (fun w1 hw => hw.rgO (i := 0) rfl 0 1 [pv1_0] rfl)) rfl ?_
  obtain ⟨x1, hx1, h⟩ := bind_some h
  refine lp (p_call Fun_132 rfl (fun w1 hw => m_l_eqItemS_ok hw.fro N p0.Items p1.Items ph0_0 ph1_0 hx1)) rfl ?_
  refine lq (q_not rfl) rfl ?_
  refine WL.nil ?_
  refine WT.cond rfl (fun c1 => ?_) (fun c1 => ?_)
  · replace h := ite_t h c1
    refine WT.seq ?_
    refine WT.region ?_
    refine lq (q_assign rfl) rfl ?_
    refine WL.nil ?_
    refine WT.ret Try.func57 (resOk.one rfl) (fun w1 hw => ?_)
    cases h
    exact post_of_St hw
  replace h := ite_f h c1
  refine WT.skip ?_
  refine WT.seq ?_
  refine WT.seq ?_
  refine WT.region ?_
  refine lq (q_fieldAddr Fld_101_1 rfl) rfl ?_
  refine lq (q_load1 T1_3 rfl (fun w1 hw => hw.rgO (i := 1) rfl 1 1 [.int .i64 p0.Next] rfl)) rfl ?_
  refine lq (q_fieldAddr Fld_101_1 rfl) rfl ?_
  refine lq (q_load1 T1_3 rfl (fun w1 hw => hw.rgO (i := 0) rfl 1 1 [.int .i64 p1.Next] rfl)) rfl ?_
  refine lq (q_neq rfl rfl) rfl ?_
  refine WL.nil ?_
  refine WT.cond rfl (fun c2 => ?_) (fun c2 => ?_)
  · replace h := ite_t h c2
    refine WT.seq ?_
    refine WT.region ?_
    refine lq (q_assign rfl) rfl ?_
    refine WL.nil ?_
    refine WT.ret Try.func57 (resOk.one rfl) (fun w1 hw => ?_)
    cases h
    exact post_of_St hw
  replace h := ite_f h c2
  refine WT.skip ?_
  refine WT.seq ?_
  refine WT.region ?_
  refine lq (q_assign rfl) rfl ?_
  refine WL.nil ?_
  refine WT.ret Try.func57 (resOk.one rfl) (fun w1 hw => ?_)
  cases h
  exact post_of_St hw
theorem m_l_eqBind_ok {Φ : Hp} {w : World} (hΦ : In Φ w) (N : Nat) (p0 : TBind) (p1 : TBind)   {r : Bool} (h : m_l_eqBind N p0 p1 = some r) :
    Calls Try.prog 133 [.agg [.string p0.Name, .int .i64 p0.V.K, .int .i64 p0.V.N, .string p0.V.S].toArray, .agg [.string p1.Name, .int .i64 p1.V.K, .int .i64 p1.V.N, .string p1.V.S].toArray].toArray w (Post (.bool r) w) := by
  refine enter Try.func133 rfl Try.ntmps133 rfl (St.start0 hΦ) ?_
  unfold m_l_eqBind at h
  refine WT.seq ?_
  refine WT.region ?_
  refine ln (n_box (C := #[.string p0.Name, .int .i64 p0.V.K, .int .i64 p0.V.N, .string p0.V.S]) rfl rfl) rfl (fun b_1 => ?_)
  refine ln (n_box (C := #[.string p1.Name, .int .i64 p1.V.K, .int .i64 p1.V.N, .string p1.V.S]) rfl rfl) rfl (fun b_2 => ?_)
  refine lq (q_assign rfl) rfl ?_
  refine WL.nil ?_
  refine WT.seq ?_
  refine WT.seq ?_
  refine WT.region ?_
  refine lq (q_fieldAddr Fld_194_0 rfl) rfl ?_
  refine lq (q_load1 T1_9 rfl (fun w1 hw => hw.rgO (i := 1) rfl 0 1 [.string p0.Name] rfl)) rfl ?_
  refine lq (q_fieldAddr Fld_194_0 rfl) rfl ?_
  refine lq (q_load1 T1_9 rfl (fun w1 hw => hw.rgO (i := 0) rfl 0 1 [.string p1.Name] rfl)) rfl ?_
  refine lq (q_sne rfl rfl) rfl ?_
  refine WL.nil ?_
  refine WT.cond rfl (fun c1 => ?_) (fun c1 => ?_)
  · replace h := ite_t h c1
    refine WT.seq ?_
    refine WT.region ?_
    refine lq (q_assign rfl) rfl ?_
    refine WL.nil ?_
    refine WT.ret Try.func133 (resOk.one rfl) (fun w1 hw => ?_)
    cases h
    exact post_of_St hw
  replace h := ite_f h c1
  refine WT.skip ?_
  refine WT.seq ?_
  refine WT.seq ?_
  refine WT.region ?_
  refine lq (q_fieldAddr Fld_194_1 rfl) rfl ?_
  refine lq (q_loadN Tn_192 rfl (fun w1 hw => hw.rgO (i := 1) rfl 1 3 [.int .i64 p0.V.K, .int .i64 p0.V.N, .string p0.V.S] rfl) rfl) rfl ?_
  refine lq (q_fieldAddr Fld_194_1 rfl) rfl ?_
  refine lq (q_loadN Tn_192 rfl (fun w1 hw => hw.rgO (i := 0) rfl 1 3 [.int .i64 p1.V.K, .int .i64 p1.V.N, .string p1.V.S] rfl) rfl) rfl ?_
  obtain ⟨x1, hx1, h⟩ := bind_some h
  refine lp (p_call Fun_205 rfl (fun w1 hw => m_l_eqVal_ok hw.fro N p0.V p1.V hx1)) rfl ?_
  refine lq (q_not rfl) rfl ?_
  refine WL.nil ?_
  refine WT.cond rfl (fun c2 => ?_) (fun c2 => ?_)
  · replace h := ite_t h c2
    refine WT.seq ?_
    refine WT.region ?_
    refine lq (q_assign rfl) rfl ?_
    refine WL.nil ?_
    refine WT.ret Try.func133 (resOk.one rfl) (fun w1 hw => ?_)
    cases h
    exact post_of_St hw
  replace h := ite_f h c2
  refine WT.skip ?_
  refine WT.seq ?_
  refine WT.region ?_
  refine lq (q_assign rfl) rfl ?_
  refine WL.nil ?_
  refine WT.ret Try.func133 (resOk.one rfl) (fun w1 hw => ?_)
  cases h
  exact post_of_St hw
theorem m_l_eqBindS_ok {Φ : Hp} {w : World} (hΦ : In Φ w) (N : Nat) (p0 : (List TBind)) (p1 : (List TBind)) {pv0 : Value} {pG0 : List Nat} {pv1 : Value} {pG1 : List Nat} (ph0 : RSl RTBind 4 Φ pG0 pv0 p0) (ph1 : RSl RTBind 4 Φ pG1 pv1 p1) {r : Bool} (h : m_l_eqBindS N p0 p1 = some r) :
    Calls Try.prog 58 [pv0, pv1].toArray w (Post (.bool r) w) := by
  refine enter Try.func58 rfl Try.ntmps58 rfl (St.start0 hΦ) ?_
  generalize hb0 : (⟨w, [], Φ⟩ : Base) = w0
  unfold m_l_eqBindS at h
  refine WT.seq ?_
  refine WT.region ?_
  refine lq (q_assign rfl) rfl ?_
  refine WL.nil ?_
  refine WT.seq ?_
  refine WT.seq ?_
  refine WT.region ?_
  refine lq (q_move rfl) rfl ?_
  refine lq (q_lenR Sl_79 rfl rfl ph0) rfl ?_
  refine lq (q_move rfl) rfl ?_
  refine lq (q_lenR Sl_79 rfl rfl ph1) rfl ?_
  refine lq (q_neq rfl rfl) rfl ?_
  refine WL.nil ?_
  refine WT.cond rfl (fun c1 => ?_) (fun c1 => ?_)
  · replace h := ite_t h c1
    refine WT.seq ?_
    refine WT.region ?_
    refine lq (q_assign rfl) rfl ?_
    refine WL.nil ?_
    refine WT.ret Try.func58 (resOk.one rfl) (fun w1 hw => ?_)
    subst hb0
    cases h
    exact post_of_St hw
  replace h := ite_f h c1
  refine WT.skip ?_
  refine WT.seq ?_
  refine WT.seq ?_
  refine WT.region ?_
  refine lq (q_assign rfl) rfl ?_
  refine WL.nil ?_
  refine WT.block ?_
  refine WT.loop ?_
  refine WT.mono (l' := [(0, pv0), (1, pv1), (5, .int .i64 0)]) (S' := St w0 Φ [] []) ⟨rfl, rfl, rfl, trivial⟩ (fun w1 hw => (hw.sel (js := []) rfl).selO (js := []) rfl) ?_
  refine loop_ind (σ := Int) (fun s => [(0, pv0), (1, pv1), (5, .int .i64 s)]) (fun s => St w0 Φ [] []) (fun m s => m_l_eqBindS_l1 N p0 p1 m s = some r) (fun s hm => none_ne (show (none : Option (Bool)) = some r from hm)) (fun n1 ih1 s hm => ?_) N (0) h
  revert hm; revert s; intro s1 hm
  have h : m_l_eqBindS_l1 N p0 p1 (n1 + 1) s1 = some r := hm
  show WT _ _ [(0, pv0), (1, pv1), (5, .int .i64 s1)] (St w0 Φ [] [])
  unfold m_l_eqBindS_l1 at h
  refine WT.seq ?_
  refine WT.seq ?_
  refine WT.region ?_
  refine lq (q_move rfl) rfl ?_
  refine lq (q_move rfl) rfl ?_
  refine lq (q_lenR Sl_79 rfl rfl ph0) rfl ?_
  refine lq (q_lss rfl rfl) rfl ?_
  refine WL.nil ?_
  refine WT.cond rfl (fun c2 => ?_) (fun c2 => ?_)
  · replace h := ite_t h c2
    refine WT.skip ?_
    refine WT.seq ?_
    refine WT.block ?_
    refine WT.seq ?_
    refine WT.draw mixed (by kernel_rfl) (fun _ h => h.drew) ?_
    refine qq (q_move rfl) rfl ?_
    refine qq (q_move rfl) rfl ?_
    obtain ⟨x1, hx1, h⟩ := bind_some h
    obtain ⟨cs1, F1, -, g1, hb1, hs1, r1⟩ := ph0.el (idx_some hx1).2.2
    obtain ⟨rfl, -⟩ := r1
    refine qq (q_indexAddr Sl_79 rfl rfl ph0 hx1) rfl ?_
    refine qq (q_loadN Tn_194 rfl (fun w1 hw => (g1.of_eq 0 4 rfl rfl : rg _ _ _ [.string x1.Name, .int .i64 x1.V.K, .int .i64 x1.V.N, .string x1.V.S]).rangeAt hw.fro) rfl) rfl ?_
    refine qq (q_move rfl) rfl ?_
    refine qq (q_move rfl) rfl ?_
    obtain ⟨x2, hx2, h⟩ := bind_some h
    obtain ⟨cs2, F2, -, g2, hb2, hs2, r2⟩ := ph1.el (idx_some hx2).2.2
    obtain ⟨rfl, -⟩ := r2
    refine qq (q_indexAddr Sl_79 rfl rfl ph1 hx2) rfl ?_
    refine qq (q_loadN Tn_194 rfl (fun w1 hw => (g2.of_eq 0 4 rfl rfl : rg _ _ _ [.string x2.Name, .int .i64 x2.V.K, .int .i64 x2.V.N, .string x2.V.S]).rangeAt hw.fro) rfl) rfl ?_
    obtain ⟨x3, hx3, h⟩ := bind_some h
    refine qp (p_call Fun_133 rfl (fun w1 hw => m_l_eqBind_ok hw.fro N x1 x2 hx3)) rfl ?_
    refine qq (q_not rfl) rfl ?_
    refine WQ.nil ?_
    refine WT.cond rfl (fun c3 => ?_) (fun c3 => ?_)
    · replace h := ite_t h c3
      refine WT.seq ?_
      refine WT.region ?_
      refine lq (q_assign rfl) rfl ?_
      refine WL.nil ?_
      refine WT.ret Try.func58 (resOk.one rfl) (fun w1 hw => ?_)
      subst hb0
      cases h
      exact post_of_St hw
    replace h := ite_f h c3
    refine WT.skip ?_
    refine WT.inBlock ?_
    refine WT.region ?_
    refine lq (q_move rfl) rfl ?_
    refine lq (q_add rfl rfl) rfl ?_
    refine lq (q_assign rfl) rfl ?_
    refine WL.nil ?_
    refine WT.inLoop (WT.mono (l' := [(0, pv0), (1, pv1), (5, .int .i64 (IntKind.i64.wrap (s1 + 1)))]) (S' := St w0 Φ [] []) ⟨rfl, rfl, rfl, trivial⟩ (fun w1 hw => (hw.sel (js := []) rfl).selO (js := []) rfl) ?_)
    exact ih1 (IntKind.i64.wrap (s1 + 1)) h
  replace h := ite_f h c2
  refine WT.exit rfl ?_
  refine WT.seq ?_
  refine WT.region ?_
  refine lq (q_assign rfl) rfl ?_
  refine WL.nil ?_
  refine WT.ret Try.func58 (resOk.one rfl) (fun w1 hw => ?_)
  subst hb0
  cases h
  exact post_of_St hw
theorem m_l_FnExactBlocked_ok {Φ : Hp} {w : World} (hΦ : In Φ w) (N : Nat) (p0 : TRule) (p1 : TStore) (p2 : (List TBind)) {pv0_0 : Value} {pG0_0 : List Nat} {pv0_1 : Value} {pG0_1 : List Nat} {pv0_2 : Value} {pG0_2 : List Nat} {pv1_0 : Value} {pG1_0 : List Nat} {pv2 : Value} {pG2 : List Nat} (ph0_0 : RSl RTPat 3 Φ pG0_0 pv0_0 p0.Pats) (ph0_1 : RSl RTCond 11 Φ pG0_1 pv0_1 p0.Conds) (ph0_2 : RSl RTAct 5 Φ pG0_2 pv0_2 p0.Acts) (ph1_0 : RSl RTItem 3 Φ pG1_0 pv1_0 p1.Items) (ph2 : RSl RTBind 4 Φ pG2 pv2 p2) {r : Bool} (h : m_l_FnExactBlocked N p0 p1 p2 = some r) :
    Calls Try.prog 10 [.agg [.string p0.Name, .int .i64 p0.Sal, pv0_0, pv0_1, pv0_2].toArray, .agg [pv1_0, .int .i64 p1.Next].toArray, pv2].toArray w (Post (.bool r) w) := by
  refine enter Try.func10 rfl Try.ntmps10 rfl (St.start0 hΦ) ?_
  have pa0_0 : Old ⟨w, [], Φ⟩ pG0_0 := Old.mk hΦ ph0_0.kn (Dj.empty _)
  have pa0_1 : Old ⟨w, [], Φ⟩ pG0_1 := Old.mk hΦ ph0_1.kn (Dj.empty _)
  have pa0_2 : Old ⟨w, [], Φ⟩ pG0_2 := Old.mk hΦ ph0_2.kn (Dj.empty _)
  have pa1_0 : Old ⟨w, [], Φ⟩ pG1_0 := Old.mk hΦ ph1_0.kn (Dj.empty _)
  have pa2 : Old ⟨w, [], Φ⟩ pG2 := Old.mk hΦ ph2.kn (Dj.empty _)
  unfold m_l_FnExactBlocked at h
  refine WT.seq ?_
  refine WT.region ?_
  refine ln (n_box (C := #[.string p0.Name, .int .i64 p0.Sal, pv0_0, pv0_1, pv0_2]) rfl rfl) rfl (fun b_1 => ?_)
  refine ln (n_box (C := #[pv1_0, .int .i64 p1.Next]) rfl rfl) rfl (fun b_2 => ?_)
  refine lq (q_assign rfl) rfl ?_
  refine WL.nil ?_
  refine WT.seq ?_
  refine WT.region ?_
  refine lq (q_assign rfl) rfl ?_
  refine WL.nil ?_
  refine WT.seq ?_
  refine WT.region ?_
  refine lq (q_loadN Tn_58 rfl (fun w1 hw => hw.rgO (i := 1) rfl 0 5 [.string p0.Name, .int .i64 p0.Sal, pv0_0, pv0_1, pv0_2] rfl) rfl) rfl ?_
  refine lq (q_move rfl) rfl ?_
  obtain ⟨x1, hx1, h⟩ := bind_some h
  refine lp (p_call Fun_29 rfl (fun w1 hw => m_l_szRule_ok hw.fro N p0 1048576 ph0_0 ph0_1 ph0_2 hx1)) rfl ?_
  refine lq (q_assign rfl) rfl ?_
  refine WL.nil ?_
  refine WT.seq ?_
  refine WT.seq ?_
  refine WT.region ?_
  refine lq (q_move rfl) rfl ?_
  refine lq (q_lss rfl rfl) rfl ?_
  refine WL.nil ?_
  refine WT.cond rfl (fun c1 => ?_) (fun c1 => ?_)
  · replace h := ite_t h c1
    refine WT.seq ?_
    refine WT.region ?_
    refine lq (q_assign rfl) rfl ?_
    refine WL.nil ?_
    refine WT.ret Try.func10 (resOk.one rfl) (fun w1 hw => ?_)
    cases h
    exact post_of_St hw
  replace h := ite_f h c1
  refine WT.skip ?_
  refine WT.seq ?_
  refine WT.region ?_
  refine lq (q_loadN Tn_95 rfl (fun w1 hw => hw.rgO (i := 0) rfl 0 2 [pv1_0, .int .i64 p1.Next] rfl) rfl) rfl ?_
  refine lq (q_move rfl) rfl ?_
  obtain ⟨x2, hx2, h⟩ := bind_some h
  refine lp (p_call Fun_51 rfl (fun w1 hw => m_l_szStore_ok hw.fro N p1 x1 ph1_0 hx2)) rfl ?_
  refine lq (q_assign rfl) rfl ?_
  refine WL.nil ?_
  refine WT.seq ?_
  refine WT.seq ?_
  refine WT.region ?_
  refine lq (q_move rfl) rfl ?_
  refine lq (q_lss rfl rfl) rfl ?_
  refine WL.nil ?_
  refine WT.cond rfl (fun c2 => ?_) (fun c2 => ?_)
  · replace h := ite_t h c2
    refine WT.seq ?_
    refine WT.region ?_
    refine lq (q_assign rfl) rfl ?_
    refine WL.nil ?_
    refine WT.ret Try.func10 (resOk.one rfl) (fun w1 hw => ?_)
    cases h
    exact post_of_St hw
  replace h := ite_f h c2
  refine WT.skip ?_
  refine WT.seq ?_
  refine WT.region ?_
  refine lq (q_move rfl) rfl ?_
  refine lq (q_move rfl) rfl ?_
  obtain ⟨x3, hx3, h⟩ := bind_some h
  refine lp (p_call Fun_52 rfl (fun w1 hw => m_l_szBindS_ok hw.fro N p2 x2 ph2 hx3)) rfl ?_
  refine lq (q_assign rfl) rfl ?_
  refine WL.nil ?_
  refine WT.seq ?_
  refine WT.seq ?_
  refine WT.region ?_
  refine lq (q_move rfl) rfl ?_
  refine lq (q_lss rfl rfl) rfl ?_
  refine WL.nil ?_
  refine WT.cond rfl (fun c3 => ?_) (fun c3 => ?_)
  · replace h := ite_t h c3
    refine WT.seq ?_
    refine WT.region ?_
    refine lq (q_assign rfl) rfl ?_
    refine WL.nil ?_
    refine WT.ret Try.func10 (resOk.one rfl) (fun w1 hw => ?_)
    cases h
    exact post_of_St hw
  replace h := ite_f h c3
  refine WT.skip ?_
  refine WT.seq ?_
  refine WT.mix (Kn Φ [] [(b_2, .cells #[pv1_0, .int .i64 p1.Next] 95 (0, 0)), (b_1, .cells #[.string p0.Name, .int .i64 p0.Sal, pv0_0, pv0_1, pv0_2] 58 (0, 0))]) (fun _ => true) mixed (fun _ h => h.drew) ?_
  refine mq 0 rfl (by kernel_rfl) (fun w1 hw => Kn.of (fun k hk _ _ => by simp at hk) (AllIn.mem ⟨List.mem_of_getElem? (i := 0) rfl, List.mem_of_getElem? (i := 1) rfl, trivial⟩) hw) (q_loadN Tn_58 rfl (fun w1 hw => hw.rgO (i := 1) rfl 0 5 [.string p0.Name, .int .i64 p0.Sal, pv0_0, pv0_1, pv0_2] rfl) rfl) rfl ?_
  refine mq 2 rfl (by kernel_rfl) (fun w1 hw => Kn.of (fun k hk _ _ => by simp at hk) (AllIn.mem ⟨List.mem_of_getElem? (i := 0) rfl, List.mem_of_getElem? (i := 1) rfl, trivial⟩) hw) (q_loadN Tn_95 rfl (fun w1 hw => hw.rgO (i := 0) rfl 0 2 [pv1_0, .int .i64 p1.Next] rfl) rfl) rfl ?_
  refine mq 4 rfl (by kernel_rfl) (fun w1 hw => Kn.of (fun k hk _ _ => by simp at hk) (AllIn.mem ⟨List.mem_of_getElem? (i := 0) rfl, List.mem_of_getElem? (i := 1) rfl, trivial⟩) hw) (q_move rfl) rfl ?_
  obtain ⟨x4, hx4, h⟩ := bind_some h
  refine WM.one 1 (by kernel_rfl) (mc rfl (fun _ v Φx D w1 hq hw => Kn.of (fun k hk _ _ => by simp at hk) (AllIn.mem ⟨List.mem_of_getElem? (i := 0) rfl, List.mem_of_getElem? (i := 1) rfl, trivial⟩) hw) (k_call (js := []) (R := []) Fun_31 rfl rfl (fun w1 hw ap hl => m_l_toRule_ok hw.fro N p0 ph0_0 ph0_1 ph0_2  hx4)) rfl (fun v1 Φ_1 F1 q1 => ?_))
  obtain ⟨ap1, fr1, v2, D1, v3, v4, D2, rfl, rfl, h1, h2, h3⟩ := q1
  replace ph2 := ph2.frame RTBind.lasts fr1 (ap1.o pa2)
  replace ph0_0 := ph0_0.frame RTPat.lasts fr1 (ap1.o pa0_0)
  replace ph0_1 := ph0_1.frame RTCond.lasts fr1 (ap1.o pa0_1)
  replace ph0_2 := ph0_2.frame RTAct.lasts fr1 (ap1.o pa0_2)
  replace ph1_0 := ph1_0.frame RTItem.lasts fr1 (ap1.o pa1_0)
  obtain ⟨x5, hx5, h⟩ := bind_some h
  refine WM.one 3 (by kernel_rfl) (mc rfl (fun _ v Φx D w1 hq hw => Kn.of (fun k hk _ _ => by simp at hk) (AllIn.mem ⟨List.mem_of_getElem? (i := 0) rfl, List.mem_of_getElem? (i := 1) rfl, trivial⟩) hw) (k_call (js := []) (R := [ob v2, D1, ob v3, ob v4, D2]) Fun_54 rfl rfl (fun w1 hw ap hl => m_l_toStore_ok hw.fro N p1 ph1_0  hx5)) rfl (fun v5 Φ_2 F2 q2 => ?_))
  obtain ⟨ap2, fr2, v6, D3, rfl, rfl, h4⟩ := q2
  replace ph2 := ph2.frame RTBind.lasts fr2 (ap2.o pa2)
  replace ph0_0 := ph0_0.frame RTPat.lasts fr2 (ap2.o pa0_0)
  replace ph0_1 := ph0_1.frame RTCond.lasts fr2 (ap2.o pa0_1)
  replace ph0_2 := ph0_2.frame RTAct.lasts fr2 (ap2.o pa0_2)
  replace ph1_0 := ph1_0.frame RTItem.lasts fr2 (ap2.o pa1_0)
  replace h1 := h1.frame OTPat.lasts fr2 (ap2.r (i := 0) rfl) (ap2.r (i := 1) rfl)
  replace h2 := h2.frame RTCond.lasts fr2 (ap2.r (i := 2) rfl) (Dj.nil _)
  replace h3 := h3.frame OTAct.lasts fr2 (ap2.r (i := 3) rfl) (ap2.r (i := 4) rfl)
  obtain ⟨x6, hx6, h⟩ := bind_some h
  refine WM.one 5 (by kernel_rfl) (mc rfl (fun _ v Φx D w1 hq hw => Kn.of (fun k hk _ _ => by simp at hk) (AllIn.mem ⟨List.mem_of_getElem? (i := 0) rfl, List.mem_of_getElem? (i := 1) rfl, trivial⟩) hw) (k_call (js := []) (R := [ob v6, D3, ob v2, D1, ob v3, ob v4, D2]) Fun_55 rfl rfl (fun w1 hw ap hl => m_l_toBindS_ok hw.fro N p2 ph2  hx6)) rfl (fun v7 Φ_3 F3 q3 => ?_))
  obtain ⟨ap3, fr3, v8, rfl, rfl, h5⟩ := q3
  replace ph2 := ph2.frame RTBind.lasts fr3 (ap3.o pa2)
  replace ph0_0 := ph0_0.frame RTPat.lasts fr3 (ap3.o pa0_0)
  replace ph0_1 := ph0_1.frame RTCond.lasts fr3 (ap3.o pa0_1)
  replace ph0_2 := ph0_2.frame RTAct.lasts fr3 (ap3.o pa0_2)
  replace ph1_0 := ph1_0.frame RTItem.lasts fr3 (ap3.o pa1_0)
  replace h1 := h1.frame OTPat.lasts fr3 (ap3.r (i := 2) rfl) (ap3.r (i := 3) rfl)
  replace h2 := h2.frame RTCond.lasts fr3 (ap3.r (i := 4) rfl) (Dj.nil _)
  replace h3 := h3.frame OTAct.lasts fr3 (ap3.r (i := 5) rfl) (ap3.r (i := 6) rfl)
  replace h4 := h4.frame OTItem.lasts fr3 (ap3.r (i := 0) rfl) (ap3.r (i := 1) rfl)
  obtain ⟨x7, hx7, h⟩ := bind_some h
  refine WM.one 6 (by kernel_rfl) (mp rfl (fun _ w1 hw => Kn.of (fun k hk _ _ => by simp at hk) (AllIn.mem ⟨List.mem_of_getElem? (i := 0) rfl, List.mem_of_getElem? (i := 1) rfl, trivial⟩) hw) (p_call Fun_53 rfl (fun w1 hw => m_s_Blocked_ok hw.fro N x4 x5 x6 (h1.rslG OTPat.gives) h2.rsl (h3.rslG OTAct.gives) (h4.rslG OTItem.gives) h5.rsl hx7)) rfl ?_)
  refine mq 7 rfl (by kernel_rfl) (fun w1 hw => Kn.of (fun k hk _ _ => by simp at hk) (AllIn.mem ⟨List.mem_of_getElem? (i := 0) rfl, List.mem_of_getElem? (i := 1) rfl, trivial⟩) hw) (q_assign rfl) rfl ?_
  refine WM.nil (by kernel_rfl) ?_
  refine WT.seq ?_
  refine WT.region ?_
  refine lq (q_loadN Tn_58 rfl (fun w1 hw => hw.rgO (i := 1) rfl 0 5 [.string p0.Name, .int .i64 p0.Sal, pv0_0, pv0_1, pv0_2] rfl) rfl) rfl ?_
  obtain ⟨x8, hx8, h⟩ := bind_some h
  refine lc (k_call (js := []) (R := [ob v7, ob v6, D3, ob v2, D1, ob v3, ob v4, D2]) Fun_31 rfl rfl (fun w1 hw ap hl => m_l_toRule_ok hw.fro N p0 ph0_0 ph0_1 ph0_2  hx8)) rfl (fun v9 Φ_4 F4 q4 => ?_)
  obtain ⟨ap4, fr4, v10, D4, v11, v12, D5, rfl, rfl, h6, h7, h8⟩ := q4
  replace ph2 := ph2.frame RTBind.lasts fr4 (ap4.o pa2)
  replace ph0_0 := ph0_0.frame RTPat.lasts fr4 (ap4.o pa0_0)
  replace ph0_1 := ph0_1.frame RTCond.lasts fr4 (ap4.o pa0_1)
  replace ph0_2 := ph0_2.frame RTAct.lasts fr4 (ap4.o pa0_2)
  replace ph1_0 := ph1_0.frame RTItem.lasts fr4 (ap4.o pa1_0)
  refine ln (n_alloc (C := #[.string (⟨#[]⟩ : ByteArray), .int .i64 0, .slice none 0 0, .slice none 0 0, .slice none 0 0]) Zr_66 rfl) rfl (fun b_3 => ?_)
  refine ls (s_store (i := 0) (vs := [.string x8.Name, .int .i64 x8.Sal, v10, v11, v12]) (C' := [.string x8.Name, .int .i64 x8.Sal, v10, v11, v12]) (O' := [(b_3, .cells #[.string x8.Name, .int .i64 x8.Sal, v10, v11, v12] 66 (0, 0)), (b_2, .cells #[pv1_0, .int .i64 p1.Next] 95 (0, 0)), (b_1, .cells #[.string p0.Name, .int .i64 p0.Sal, pv0_0, pv0_1, pv0_2] 58 (0, 0))]) Sz_66 rfl rfl rfl rfl rfl rfl ⟨rfl, rfl, h6.one, h7.one, h8.one, trivial⟩ rfl rfl) rfl ?_
  refine WL.nil ?_
  refine WT.seq ?_
  refine WT.region ?_
  refine lq (q_loadN Tn_95 rfl (fun w1 hw => hw.rgO (i := 1) rfl 0 2 [pv1_0, .int .i64 p1.Next] rfl) rfl) rfl ?_
  obtain ⟨x9, hx9, h⟩ := bind_some h
  refine lc (k_call (js := []) (R := [ob v10, D4, ob v11, ob v12, D5, ob v7, ob v6, D3, ob v2, D1, ob v3, ob v4, D2]) Fun_54 rfl rfl (fun w1 hw ap hl => m_l_toStore_ok hw.fro N p1 ph1_0  hx9)) rfl (fun v13 Φ_5 F5 q5 => ?_)
  obtain ⟨ap5, fr5, v14, D6, rfl, rfl, h9⟩ := q5
  replace ph2 := ph2.frame RTBind.lasts fr5 (ap5.o pa2)
  replace ph0_0 := ph0_0.frame RTPat.lasts fr5 (ap5.o pa0_0)
  replace ph0_1 := ph0_1.frame RTCond.lasts fr5 (ap5.o pa0_1)
  replace ph0_2 := ph0_2.frame RTAct.lasts fr5 (ap5.o pa0_2)
  replace ph1_0 := ph1_0.frame RTItem.lasts fr5 (ap5.o pa1_0)
  replace h6 := h6.frame OTPat.lasts fr5 (ap5.r (i := 0) rfl) (ap5.r (i := 1) rfl)
  replace h7 := h7.frame RTCond.lasts fr5 (ap5.r (i := 2) rfl) (Dj.nil _)
  replace h8 := h8.frame OTAct.lasts fr5 (ap5.r (i := 3) rfl) (ap5.r (i := 4) rfl)
  refine ln (n_alloc (C := #[.slice none 0 0, .int .i64 0]) Zr_101 rfl) rfl (fun b_4 => ?_)
  refine ls (s_store (i := 0) (vs := [v14, .int .i64 x9.Next]) (C' := [v14, .int .i64 x9.Next]) (O' := [(b_4, .cells #[v14, .int .i64 x9.Next] 101 (0, 0)), (b_3, .cells #[.string x8.Name, .int .i64 x8.Sal, v10, v11, v12] 66 (0, 0)), (b_2, .cells #[pv1_0, .int .i64 p1.Next] 95 (0, 0)), (b_1, .cells #[.string p0.Name, .int .i64 p0.Sal, pv0_0, pv0_1, pv0_2] 58 (0, 0))]) Sz_101 rfl rfl rfl rfl rfl rfl ⟨h9.one, rfl, trivial⟩ rfl rfl) rfl ?_
  refine WL.nil ?_
  refine WT.seq ?_
  refine WT.region ?_
  refine lq (q_move rfl) rfl ?_
  obtain ⟨x10, hx10, h⟩ := bind_some h
  refine lc (k_call (js := []) (R := [ob v14, D6, ob v10, D4, ob v11, ob v12, D5, ob v7, ob v6, D3, ob v2, D1, ob v3, ob v4, D2]) Fun_55 rfl rfl (fun w1 hw ap hl => m_l_toBindS_ok hw.fro N p2 ph2  hx10)) rfl (fun v15 Φ_6 F6 q6 => ?_)
  obtain ⟨ap6, fr6, v16, rfl, rfl, h10⟩ := q6
  replace ph2 := ph2.frame RTBind.lasts fr6 (ap6.o pa2)
  replace ph0_0 := ph0_0.frame RTPat.lasts fr6 (ap6.o pa0_0)
  replace ph0_1 := ph0_1.frame RTCond.lasts fr6 (ap6.o pa0_1)
  replace ph0_2 := ph0_2.frame RTAct.lasts fr6 (ap6.o pa0_2)
  replace ph1_0 := ph1_0.frame RTItem.lasts fr6 (ap6.o pa1_0)
  replace h6 := h6.frame OTPat.lasts fr6 (ap6.r (i := 2) rfl) (ap6.r (i := 3) rfl)
  replace h7 := h7.frame RTCond.lasts fr6 (ap6.r (i := 4) rfl) (Dj.nil _)
  replace h8 := h8.frame OTAct.lasts fr6 (ap6.r (i := 5) rfl) (ap6.r (i := 6) rfl)
  replace h9 := h9.frame OTItem.lasts fr6 (ap6.r (i := 0) rfl) (ap6.r (i := 1) rfl)
  refine lq (q_assign rfl) rfl ?_
  refine WL.nil ?_
  refine WT.seq ?_
  refine WT.region ?_
  refine lq (q_loadN Tn_66 rfl (fun w1 hw => hw.rgO (i := 1) rfl 0 5 [.string x8.Name, .int .i64 x8.Sal, v10, v11, v12] rfl) rfl) rfl ?_
  refine lq (q_loadN Tn_101 rfl (fun w1 hw => hw.rgO (i := 0) rfl 0 2 [v14, .int .i64 x9.Next] rfl) rfl) rfl ?_
  refine lq (q_move rfl) rfl ?_
  obtain ⟨x11, hx11, h⟩ := bind_some h
  refine lp (p_call Fun_56 rfl (fun w1 hw => m_i_Blocked_ok hw.fro N x8 x9 x10 (h6.rslG OTPat.gives) h7.rsl (h8.rslG OTAct.gives) (h9.rslG OTItem.gives) h10.rsl hx11)) rfl ?_
  refine lq (q_assign rfl) rfl ?_
  refine WL.nil ?_
  refine WT.seq ?_
  refine WT.seq ?_
  refine WT.region ?_
  refine lq (q_move rfl) rfl ?_
  refine lq (q_move rfl) rfl ?_
  refine lq (q_bne Bo_4 rfl rfl) rfl ?_
  refine WL.nil ?_
  refine WT.cond rfl (fun c4 => ?_) (fun c4 => ?_)
  · replace h := ite_t h c4
    refine WT.seq ?_
    refine WT.region ?_
    refine lq (q_assign rfl) rfl ?_
    refine WL.nil ?_
    refine WT.ret Try.func10 (resOk.one rfl) (fun w1 hw => ?_)
    cases h
    exact post_of_St hw
  replace h := ite_f h c4
  refine WT.skip ?_
  refine WT.seq ?_
  refine WT.seq ?_
  refine WT.mix (Kn Φ_6 [] [(b_4, .cells #[v14, .int .i64 x9.Next] 101 (0, 0)), (b_3, .cells #[.string x8.Name, .int .i64 x8.Sal, v10, v11, v12] 66 (0, 0)), (b_2, .cells #[pv1_0, .int .i64 p1.Next] 95 (0, 0)), (b_1, .cells #[.string p0.Name, .int .i64 p0.Sal, pv0_0, pv0_1, pv0_2] 58 (0, 0))]) (fun _ => true) mixed (fun _ h => h.drew) ?_
  refine mq 0 rfl (by kernel_rfl) (fun w1 hw => Kn.of (fun k hk _ _ => by simp at hk) (AllIn.mem ⟨List.mem_of_getElem? (i := 0) rfl, List.mem_of_getElem? (i := 1) rfl, List.mem_of_getElem? (i := 2) rfl, List.mem_of_getElem? (i := 3) rfl, trivial⟩) hw) (q_loadN Tn_66 rfl (fun w1 hw => hw.rgO (i := 1) rfl 0 5 [.string x8.Name, .int .i64 x8.Sal, v10, v11, v12] rfl) rfl) rfl ?_
  refine mq 1 rfl (by kernel_rfl) (fun w1 hw => Kn.of (fun k hk _ _ => by simp at hk) (AllIn.mem ⟨List.mem_of_getElem? (i := 0) rfl, List.mem_of_getElem? (i := 1) rfl, List.mem_of_getElem? (i := 2) rfl, List.mem_of_getElem? (i := 3) rfl, trivial⟩) hw) (q_loadN Tn_58 rfl (fun w1 hw => hw.rgO (i := 3) rfl 0 5 [.string p0.Name, .int .i64 p0.Sal, pv0_0, pv0_1, pv0_2] rfl) rfl) rfl ?_
  obtain ⟨x12, hx12, h⟩ := bind_some h
  refine WM.one 2 (by kernel_rfl) (mc rfl (fun _ v Φx D w1 hq hw => Kn.of (fun k hk _ _ => by simp at hk) (AllIn.mem ⟨List.mem_of_getElem? (i := 0) rfl, List.mem_of_getElem? (i := 1) rfl, List.mem_of_getElem? (i := 2) rfl, List.mem_of_getElem? (i := 3) rfl, trivial⟩) hw) (k_call (js := []) (R := [ob v15, ob v14, D6, ob v10, D4, ob v11, ob v12, D5, ob v7, ob v6, D3, ob v2, D1, ob v3, ob v4, D2]) Fun_31 rfl rfl (fun w1 hw ap hl => m_l_toRule_ok hw.fro N p0 ph0_0 ph0_1 ph0_2  hx12)) rfl (fun v17 Φ_7 F7 q7 => ?_))
  obtain ⟨ap7, fr7, v18, D7, v19, v20, D8, rfl, rfl, h11, h12, h13⟩ := q7
  replace ph2 := ph2.frame RTBind.lasts fr7 (ap7.o pa2)
  replace ph1_0 := ph1_0.frame RTItem.lasts fr7 (ap7.o pa1_0)
  replace h10 := h10.frame RTBind.lasts fr7 (ap7.r (i := 0) rfl) (Dj.nil _)
  replace h6 := h6.frame OTPat.lasts fr7 (ap7.r (i := 3) rfl) (ap7.r (i := 4) rfl)
  replace h7 := h7.frame RTCond.lasts fr7 (ap7.r (i := 5) rfl) (Dj.nil _)
  replace h8 := h8.frame OTAct.lasts fr7 (ap7.r (i := 6) rfl) (ap7.r (i := 7) rfl)
  replace h9 := h9.frame OTItem.lasts fr7 (ap7.r (i := 1) rfl) (ap7.r (i := 2) rfl)
  obtain ⟨x13, hx13, h⟩ := bind_some h
  refine WM.one 3 (by kernel_rfl) (mp rfl (fun _ w1 hw => Kn.of (fun k hk _ _ => by simp at hk) (AllIn.mem ⟨List.mem_of_getElem? (i := 0) rfl, List.mem_of_getElem? (i := 1) rfl, List.mem_of_getElem? (i := 2) rfl, List.mem_of_getElem? (i := 3) rfl, trivial⟩) hw) (p_call Fun_34 rfl (fun w1 hw => m_l_eqRule_ok hw.fro N x8 x12 (h6.rslG OTPat.gives) h7.rsl (h8.rslG OTAct.gives) (h11.rslG OTPat.gives) h12.rsl (h13.rslG OTAct.gives) hx13)) rfl ?_)
  refine mq 4 rfl (by kernel_rfl) (fun w1 hw => Kn.of (fun k hk _ _ => by simp at hk) (AllIn.mem ⟨List.mem_of_getElem? (i := 0) rfl, List.mem_of_getElem? (i := 1) rfl, List.mem_of_getElem? (i := 2) rfl, List.mem_of_getElem? (i := 3) rfl, trivial⟩) hw) (q_not rfl) rfl ?_
  refine WM.nil (by kernel_rfl) ?_
  refine WT.cond rfl (fun c5 => ?_) (fun c5 => ?_)
  · replace h := ite_t h c5
    refine WT.seq ?_
    refine WT.region ?_
    refine lq (q_assign rfl) rfl ?_
    refine WL.nil ?_
    refine WT.ret Try.func10 (resOk.one rfl) (fun w1 hw => ?_)
    cases h
    exact post_of_St hw
  replace h := ite_f h c5
  refine WT.skip ?_
  refine WT.seq ?_
  refine WT.seq ?_
  refine WT.mix (Kn Φ_7 [] [(b_4, .cells #[v14, .int .i64 x9.Next] 101 (0, 0)), (b_3, .cells #[.string x8.Name, .int .i64 x8.Sal, v10, v11, v12] 66 (0, 0)), (b_2, .cells #[pv1_0, .int .i64 p1.Next] 95 (0, 0)), (b_1, .cells #[.string p0.Name, .int .i64 p0.Sal, pv0_0, pv0_1, pv0_2] 58 (0, 0))]) (fun _ => true) mixed (fun _ h => h.drew) ?_
  refine mq 0 rfl (by kernel_rfl) (fun w1 hw => Kn.of (fun k hk _ _ => by simp at hk) (AllIn.mem ⟨List.mem_of_getElem? (i := 0) rfl, List.mem_of_getElem? (i := 1) rfl, List.mem_of_getElem? (i := 2) rfl, List.mem_of_getElem? (i := 3) rfl, trivial⟩) hw) (q_loadN Tn_101 rfl (fun w1 hw => hw.rgO (i := 0) rfl 0 2 [v14, .int .i64 x9.Next] rfl) rfl) rfl ?_
  refine mq 1 rfl (by kernel_rfl) (fun w1 hw => Kn.of (fun k hk _ _ => by simp at hk) (AllIn.mem ⟨List.mem_of_getElem? (i := 0) rfl, List.mem_of_getElem? (i := 1) rfl, List.mem_of_getElem? (i := 2) rfl, List.mem_of_getElem? (i := 3) rfl, trivial⟩) hw) (q_loadN Tn_95 rfl (fun w1 hw => hw.rgO (i := 2) rfl 0 2 [pv1_0, .int .i64 p1.Next] rfl) rfl) rfl ?_
  obtain ⟨x14, hx14, h⟩ := bind_some h
  refine WM.one 2 (by kernel_rfl) (mc rfl (fun _ v Φx D w1 hq hw => Kn.of (fun k hk _ _ => by simp at hk) (AllIn.mem ⟨List.mem_of_getElem? (i := 0) rfl, List.mem_of_getElem? (i := 1) rfl, List.mem_of_getElem? (i := 2) rfl, List.mem_of_getElem? (i := 3) rfl, trivial⟩) hw) (k_call (js := []) (R := [ob v18, D7, ob v19, ob v20, D8, ob v15, ob v14, D6, ob v10, D4, ob v11, ob v12, D5, ob v7, ob v6, D3, ob v2, D1, ob v3, ob v4, D2]) Fun_54 rfl rfl (fun w1 hw ap hl => m_l_toStore_ok hw.fro N p1 ph1_0  hx14)) rfl (fun v21 Φ_8 F8 q8 => ?_))
  obtain ⟨ap8, fr8, v22, D9, rfl, rfl, h14⟩ := q8
  replace ph2 := ph2.frame RTBind.lasts fr8 (ap8.o pa2)
  replace h10 := h10.frame RTBind.lasts fr8 (ap8.r (i := 5) rfl) (Dj.nil _)
  replace h9 := h9.frame OTItem.lasts fr8 (ap8.r (i := 6) rfl) (ap8.r (i := 7) rfl)
  obtain ⟨x15, hx15, h⟩ := bind_some h
  refine WM.one 3 (by kernel_rfl) (mp rfl (fun _ w1 hw => Kn.of (fun k hk _ _ => by simp at hk) (AllIn.mem ⟨List.mem_of_getElem? (i := 0) rfl, List.mem_of_getElem? (i := 1) rfl, List.mem_of_getElem? (i := 2) rfl, List.mem_of_getElem? (i := 3) rfl, trivial⟩) hw) (p_call Fun_57 rfl (fun w1 hw => m_l_eqStore_ok hw.fro N x9 x14 (h9.rslG OTItem.gives) (h14.rslG OTItem.gives) hx15)) rfl ?_)
  refine mq 4 rfl (by kernel_rfl) (fun w1 hw => Kn.of (fun k hk _ _ => by simp at hk) (AllIn.mem ⟨List.mem_of_getElem? (i := 0) rfl, List.mem_of_getElem? (i := 1) rfl, List.mem_of_getElem? (i := 2) rfl, List.mem_of_getElem? (i := 3) rfl, trivial⟩) hw) (q_not rfl) rfl ?_
  refine WM.nil (by kernel_rfl) ?_
  refine WT.cond rfl (fun c6 => ?_) (fun c6 => ?_)
  · replace h := ite_t h c6
    refine WT.seq ?_
    refine WT.region ?_
    refine lq (q_assign rfl) rfl ?_
    refine WL.nil ?_
    refine WT.ret Try.func10 (resOk.one rfl) (fun w1 hw => ?_)
    cases h
    exact post_of_St hw
  replace h := ite_f h c6
  refine WT.skip ?_
  refine WT.seq ?_
  refine WT.seq ?_
  refine WT.region ?_
  refine lq (q_move rfl) rfl ?_
  refine lq (q_move rfl) rfl ?_
  obtain ⟨x16, hx16, h⟩ := bind_some h
  refine lc (k_call (js := []) (R := [ob v22, D9, ob v18, D7, ob v19, ob v20, D8, ob v15, ob v14, D6, ob v10, D4, ob v11, ob v12, D5, ob v7, ob v6, D3, ob v2, D1, ob v3, ob v4, D2]) Fun_55 rfl rfl (fun w1 hw ap hl => m_l_toBindS_ok hw.fro N p2 ph2  hx16)) rfl (fun v23 Φ_9 F9 q9 => ?_)
  obtain ⟨ap9, fr9, v24, rfl, rfl, h15⟩ := q9
  replace h10 := h10.frame RTBind.lasts fr9 (ap9.r (i := 7) rfl) (Dj.nil _)
  obtain ⟨x17, hx17, h⟩ := bind_some h
  refine lp (p_call Fun_58 rfl (fun w1 hw => m_l_eqBindS_ok hw.fro N x10 x16 h10.rsl h15.rsl hx17)) rfl ?_
  refine lq (q_not rfl) rfl ?_
  refine WL.nil ?_
  refine WT.cond rfl (fun c7 => ?_) (fun c7 => ?_)
  · replace h := ite_t h c7
    refine WT.seq ?_
    refine WT.region ?_
    refine lq (q_assign rfl) rfl ?_
    refine WL.nil ?_
    refine WT.ret Try.func10 (resOk.one rfl) (fun w1 hw => ?_)
    cases h
    exact post_of_St hw
  replace h := ite_f h c7
  refine WT.skip ?_
  refine WT.seq ?_
  refine WT.region ?_
  refine lq (q_assign rfl) rfl ?_
  refine WL.nil ?_
  refine WT.ret Try.func10 (resOk.one rfl) (fun w1 hw => ?_)
  cases h
  exact post_of_St hw
end Go.Proofs.Ytjhlmnbkfdkmpaa
