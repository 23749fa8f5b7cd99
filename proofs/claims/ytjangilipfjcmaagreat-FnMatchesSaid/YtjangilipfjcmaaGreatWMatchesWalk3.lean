/- Printed by a program of ours: each Go function computes its Lean function. -/
import Derived.Test.YtjangilipfjcmaaGreatProg
import Derived.Test.YtjangilipfjcmaaGreatWMatchesWalk2
namespace Go.Proofs.YtjangilipfjcmaaGreat
open Eng
open Go.RowKit (Below)
set_option linter.unusedVariables false
set_option linter.unusedSimpArgs false

set_option maxRecDepth 100000
set_option maxHeartbeats 1000000
theorem m_s_VarsOf_ok {Φ : Hp} {w : World} (hΦ : In Φ w) (N : Nat) (p0 : TPat) {pv0_0 : Value} {pG0_0 : List Nat} (ph0_0 : RSl RTArg 5 Φ pG0_0 pv0_0 p0.Args) {r : (List ByteArray)} (h : m_s_VarsOf N p0 = some r) :
  Calls Tryz.prog 176 [.agg [.string p0.Kind, pv0_0, .bool p0.Not].toArray].toArray w (PostG Φ w [] (fun Φ' Fs v => ∃ (sr_0_0 : Value), v = sr_0_0 ∧ Fs = [ob sr_0_0] ∧ OSl RS 9 1 Φ' [] sr_0_0 r)) := by
 refine enter Tryz.func176 rfl Tryz.ntmps176 rfl (St.start0 hΦ) ?_
 have pa0_0 : Old ⟨w, [], Φ⟩ pG0_0 := Old.mk hΦ ph0_0.kn (Dj.empty _)
 revert pa0_0
 generalize hb0 : (⟨w, [], Φ⟩ : Base) = w0
 intro pa0_0
 unfold m_s_VarsOf at h
 refine WT.seq <| WT.region ?_
 refine ln (n_box (C := #[.string p0.Kind, pv0_0, .bool p0.Not]) rfl rfl) rfl (fun b_1 => ?_)
 refine lq (q_assign rfl) rfl <| WL.nil <| WT.seq <| WT.region ?_
 have rc1 : RC RS 1 Φ ([] : List (List Nat)) [] ([] : List ByteArray) := RC.nil _ _ _
 refine le' (e_lit (vs := []) (C := #[]) RS.lasts Sl_137 Zr_9 rfl rfl rfl rfl (fill_made MC_9_0 (fill_nil)) rfl rc1 rfl (by simpa using Kw.nil)) rfl (fun v1 Φ_1 D1 q1 => ?_)
 obtain ⟨fr1, h1⟩ := q1
 replace h1 : OSl RS 9 1 Φ_1 [] v1 ([] : List ByteArray) := by simpa using h1
 replace ph0_0 := ph0_0.frame RTArg.lasts fr1 (Dj.empty _)
 refine lq (q_assign rfl) rfl <| WL.nil <| WT.seq <| WT.seq <| WT.region <| lq (q_assign rfl) rfl <| WL.nil <| WT.block <| WT.loop <| WT.mono (l' := [(1, .pointer (some ⟨b_1, 0, none⟩)), (3, v1), (4, .int .i64 0)]) (S' := St w0 Φ_1 [(b_1, .cells #[.string p0.Kind, pv0_0, .bool p0.Not] 114 (0, 0))] [ob v1]) ⟨rfl, rfl, rfl, trivial⟩ (fun w1 hw => (hw.sel (js := [0]) rfl).selO (js := [0]) rfl) ?_
 refine loop_ind (σ := Hp × (List ByteArray) × Value × Int) (fun s => [(1, .pointer (some ⟨b_1, 0, none⟩)), (3, s.2.2.1), (4, .int .i64 s.2.2.2)]) (fun s => St w0 s.1 [(b_1, .cells #[.string p0.Kind, pv0_0, .bool p0.Not] 114 (0, 0))] [ob s.2.2.1]) (fun m s => m_s_VarsOf_l1 N p0 m s.2.1 s.2.2.2 = some r ∧ (OSl RS 9 1 s.1 [] s.2.2.1 s.2.1) ∧ (RSl RTArg 5 s.1 pG0_0 pv0_0 p0.Args)) (fun s hm => none_ne (show (none : Option ((List ByteArray))) = some r from hm.1)) (fun n1 ih1 s hm => ?_) N (Φ_1, ([] : List ByteArray), v1, 0) ⟨h, h1, ph0_0⟩
 obtain ⟨Φ_2, s1, u1, s2⟩ := s
 obtain ⟨h, k1, ph0_0⟩ := hm
 replace h : m_s_VarsOf_l1 N p0 (n1 + 1) s1 s2 = some r := h
 replace k1 : OSl RS 9 1 Φ_2 [] u1 s1 := k1
 replace ph0_0 : RSl RTArg 5 Φ_2 pG0_0 pv0_0 p0.Args := ph0_0
 show WT _ _ [(1, .pointer (some ⟨b_1, 0, none⟩)), (3, u1), (4, .int .i64 s2)] (St w0 Φ_2 [(b_1, .cells #[.string p0.Kind, pv0_0, .bool p0.Not] 114 (0, 0))] [ob u1])
 unfold m_s_VarsOf_l1 at h
 refine WT.seq <| WT.seq <| WT.region <| lq (q_move rfl) rfl <| lq (q_fieldAddr Fld_114_1 rfl) rfl <| lq (q_load1 T1_112 rfl (fun w1 hw => hw.rgO (i := 0) rfl 1 1 [pv0_0] rfl)) rfl <| lq (q_lenR Sl_112 rfl rfl ph0_0) rfl <| lq (q_lss rfl rfl) rfl <| WL.nil ?_
 refine WT.cond rfl (fun c1 => ?_) (fun c1 => ?_)
 ·replace h := ite_t h c1
  refine WT.skip <| WT.seq <| WT.block <| WT.seq <| WT.region <| lq (q_fieldAddr Fld_114_1 rfl) rfl <| lq (q_load1 T1_112 rfl (fun w1 hw => hw.rgO (i := 0) rfl 1 1 [pv0_0] rfl)) rfl <| lq (q_move rfl) rfl ?_
  obtain ⟨x1, hx1, h⟩ := bind_some h
  obtain ⟨cs1, F1, -, g1, hb1, hs1, r1⟩ := ph0_0.el (idx_some hx1).2.2
  obtain ⟨rfl, -⟩ := r1
  refine lq (q_indexAddr Sl_112 rfl rfl ph0_0 hx1) rfl <| lq (q_fieldAddr Fld_126_0 rfl) rfl <| lq (q_load1 T1_3 rfl (fun w1 hw => (g1.of_eq 0 1 rfl rfl : rg _ _ _ [.int .i64 x1.K]).rangeAt hw.fro)) rfl <| lq (q_eql rfl rfl) rfl <| lq (q_move rfl) rfl ?_
  obtain ⟨b1, hb_1, h⟩ := bind_some h
  refine WL.cutN 10 [(30, .bool b1), (1, .pointer (some ⟨b_1, 0, none⟩)), (3, u1), (4, .int .i64 s2)] ?_ (fun K => ?_)
  rotate_left
  ·refine WL.split (d := 20) rfl (fun c2 => ?_) (fun c2 => ?_)
   ·replace hb_1 := ite_t hb_1 c2
    refine WL.yes rfl rfl <| lq (q_move rfl) rfl <| WL.yes rfl rfl <| lq (q_fieldAddr Fld_114_1 rfl) rfl <| WL.yes rfl rfl <| lq (q_load1 T1_112 rfl (fun w1 hw => hw.rgO (i := 0) rfl 1 1 [pv0_0] rfl)) rfl <| WL.yes rfl rfl <| lq (q_move rfl) rfl <| WL.yes rfl rfl ?_
    obtain ⟨x2, hx2, hb_1⟩ := bind_some hb_1
    obtain ⟨cs2, F2, -, g2, hb2, hs2, r2⟩ := ph0_0.el (idx_some hx2).2.2
    obtain ⟨rfl, -⟩ := r2
    refine lq (q_indexAddr Sl_112 rfl rfl ph0_0 hx2) rfl <| WL.yes rfl rfl <| lq (q_fieldAddr Fld_126_1 rfl) rfl <| WL.yes rfl rfl <| lq (q_load1 T1_9 rfl (fun w1 hw => (g2.of_eq 1 1 rfl rfl : rg _ _ _ [.string x2.S]).rangeAt hw.fro)) rfl <| WL.yes rfl rfl ?_
    obtain ⟨x3, hx3, hb_1⟩ := bind_some hb_1
    refine lp (p_call Fun_177 rfl (fun w1 hw => m_s_l6Has_ok hw.fro N s1 x2.S k1.rsl hx3)) rfl <| WL.yes rfl rfl <| lq (q_not rfl) rfl <| WL.q (q_pick1 rfl rfl) rfl rfl rfl ?_
    cases hb_1
    exact WL.keep (by exact ⟨rfl, rfl, rfl, rfl, trivial⟩) K
   ·replace hb_1 := ite_f hb_1 c2
    refine WL.no rfl rfl rfl rfl <| WL.no rfl rfl rfl rfl <| WL.no rfl rfl rfl rfl <| WL.no rfl rfl rfl rfl <| WL.no rfl rfl rfl rfl <| WL.no rfl rfl rfl rfl <| WL.no rfl rfl rfl rfl <| WL.no rfl rfl rfl rfl <| WL.no rfl rfl rfl rfl <| WL.q (q_pick0 rfl rfl) rfl rfl rfl ?_
    cases hb_1
    exact WL.keep (by exact ⟨rfl, rfl, rfl, rfl, trivial⟩) K
  refine WL.nil ?_
  refine WT.cond rfl (fun c3 => ?_) (fun c3 => ?_)
  ·replace h := ite_t h c3
   refine WT.region <| lq (q_move rfl) rfl <| lq (q_fieldAddr Fld_114_1 rfl) rfl <| lq (q_load1 T1_112 rfl (fun w1 hw => hw.rgO (i := 0) rfl 1 1 [pv0_0] rfl)) rfl <| lq (q_move rfl) rfl ?_
   obtain ⟨x4, hx4, h⟩ := bind_some h
   obtain ⟨cs3, F3, -, g3, hb3, hs3, r3⟩ := ph0_0.el (idx_some hx4).2.2
   obtain ⟨rfl, -⟩ := r3
   refine lq (q_indexAddr Sl_112 rfl rfl ph0_0 hx4) rfl <| lq (q_fieldAddr Fld_126_1 rfl) rfl <| lq (q_load1 T1_9 rfl (fun w1 hw => (g3.of_eq 1 1 rfl rfl : rg _ _ _ [.string x4.S]).rangeAt hw.fro)) rfl ?_
   have rc2 : RC RS 1 Φ_2 ([[]] : List (List Nat)) [.string x4.S] ([x4.S] : List ByteArray) := RC.cons (c := [.string x4.S]) (cells := []) ⟨rfl, rfl⟩ rfl (RC.nil _ _ _)
   refine le' (e_lit (vs := [(0, .string x4.S)]) (C := #[.string x4.S]) RS.lasts Sl_137 Zr_9 rfl rfl rfl rfl (fill_made MC_9_1 (fill_cons (cells := [.string ⟨#[]⟩]) (c := [.string x4.S]) (C' := [.string x4.S]) rfl rfl rfl rfl rfl (fill_nil))) rfl rc2 rfl (by simpa using Kw.nil)) rfl (fun v2 Φ_3 D2 q2 => ?_)
   obtain ⟨fr2, h2⟩ := q2
   replace h2 : OSl RS 9 1 Φ_3 [] v2 ([x4.S] : List ByteArray) := by simpa using h2
   replace ph0_0 := ph0_0.frame RTArg.lasts fr2 (Dj.empty _)
   replace k1 := k1.frame RS.lasts fr2 (Dj.empty _) (Dj.empty _)
   obtain ⟨x5, hx5, h⟩ := bind_some h
   refine le' (e_appF RS.lasts RS.one RS.flat Sl_137 Ei_9 rfl rfl rfl rfl rfl (js := [1]) (Rr := [ob v2]) rfl k1 h2.rsl hx5) rfl (fun v3 Φ_4 D3 q3 => ?_)
   obtain ⟨⟨ap1, fr3⟩, h3⟩ := q3
   replace ph0_0 := ph0_0.frame RTArg.lasts fr3 (ap1.o pa0_0)
   refine lq (q_assign rfl) rfl <| WL.nil <| WT.inBlock <| WT.region <| lq (q_move rfl) rfl <| lq (q_add rfl rfl) rfl <| lq (q_assign rfl) rfl <| WL.nil ?_
   refine WT.inLoop (WT.mono (l' := [(1, .pointer (some ⟨b_1, 0, none⟩)), (3, v3), (4, .int .i64 (IntKind.i64.wrap (s2 + 1)))]) (S' := St w0 Φ_4 [(b_1, .cells #[.string p0.Kind, pv0_0, .bool p0.Not] 114 (0, 0))] [ob v3]) ⟨rfl, rfl, rfl, trivial⟩ (fun w1 hw => (hw.sel (js := [0]) rfl).selO (js := [0]) rfl) ?_)
   exact ih1 (Φ_4, x5, v3, IntKind.i64.wrap (s2 + 1)) ⟨h, h3, ph0_0⟩
  replace h := ite_f h c3
  refine WT.skip <| WT.inBlock <| WT.region <| lq (q_move rfl) rfl <| lq (q_add rfl rfl) rfl <| lq (q_assign rfl) rfl <| WL.nil ?_
  refine WT.inLoop (WT.mono (l' := [(1, .pointer (some ⟨b_1, 0, none⟩)), (3, u1), (4, .int .i64 (IntKind.i64.wrap (s2 + 1)))]) (S' := St w0 Φ_2 [(b_1, .cells #[.string p0.Kind, pv0_0, .bool p0.Not] 114 (0, 0))] [ob u1]) ⟨rfl, rfl, rfl, trivial⟩ (fun w1 hw => (hw.sel (js := [0]) rfl).selO (js := [0]) rfl) ?_)
  exact ih1 (Φ_2, s1, u1, IntKind.i64.wrap (s2 + 1)) ⟨h, k1, ph0_0⟩
 replace h := ite_f h c1
 refine WT.exit rfl <| WT.seq <| WT.region <| lq (q_move rfl) rfl <| lq (q_assign rfl) rfl <| WL.nil ?_
 refine WT.ret Tryz.func176 (resOk.one rfl) (fun w1 hw => ?_)
 subst hb0
 cases h
 refine postG_of_St (js := [0]) hw rfl ⟨u1, rfl, rfl, k1⟩
theorem m_s_PosVars_ok {Φ : Hp} {w : World} (hΦ : In Φ w) (N : Nat) (p0 : TRule) {pv0_0 : Value} {pG0_0 : List Nat} {pv0_1 : Value} {pG0_1 : List Nat} {pv0_2 : Value} {pG0_2 : List Nat} (ph0_0 : RSl RTPat 3 Φ pG0_0 pv0_0 p0.Pats) (ph0_1 : RSl RTCond 11 Φ pG0_1 pv0_1 p0.Conds) (ph0_2 : RSl RTAct 5 Φ pG0_2 pv0_2 p0.Acts) {r : (List ByteArray)} (h : m_s_PosVars N p0 = some r) :
  Calls Tryz.prog 115 [.agg [.string p0.Name, .int .i64 p0.Sal, pv0_0, pv0_1, pv0_2].toArray].toArray w (PostG Φ w [] (fun Φ' Fs v => ∃ (sr_0_0 : Value), v = sr_0_0 ∧ Fs = [ob sr_0_0] ∧ OSl RS 9 1 Φ' [] sr_0_0 r)) := by
 refine enter Tryz.func115 rfl Tryz.ntmps115 rfl (St.start0 hΦ) ?_
 have pa0_0 : Old ⟨w, [], Φ⟩ pG0_0 := Old.mk hΦ ph0_0.kn (Dj.empty _)
 have pa0_1 : Old ⟨w, [], Φ⟩ pG0_1 := Old.mk hΦ ph0_1.kn (Dj.empty _)
 have pa0_2 : Old ⟨w, [], Φ⟩ pG0_2 := Old.mk hΦ ph0_2.kn (Dj.empty _)
 revert pa0_0 pa0_1 pa0_2
 generalize hb0 : (⟨w, [], Φ⟩ : Base) = w0
 intro pa0_0 pa0_1 pa0_2
 unfold m_s_PosVars at h
 refine WT.seq <| WT.region ?_
 refine ln (n_box (C := #[.string p0.Name, .int .i64 p0.Sal, pv0_0, pv0_1, pv0_2]) rfl rfl) rfl (fun b_1 => ?_)
 refine lq (q_assign rfl) rfl <| WL.nil <| WT.seq <| WT.region ?_
 have rc1 : RC RS 1 Φ ([] : List (List Nat)) [] ([] : List ByteArray) := RC.nil _ _ _
 refine le' (e_lit (vs := []) (C := #[]) RS.lasts Sl_137 Zr_9 rfl rfl rfl rfl (fill_made MC_9_0 (fill_nil)) rfl rc1 rfl (by simpa using Kw.nil)) rfl (fun v1 Φ_1 D1 q1 => ?_)
 obtain ⟨fr1, h1⟩ := q1
 replace h1 : OSl RS 9 1 Φ_1 [] v1 ([] : List ByteArray) := by simpa using h1
 replace ph0_0 := ph0_0.frame RTPat.lasts fr1 (Dj.empty _)
 replace ph0_1 := ph0_1.frame RTCond.lasts fr1 (Dj.empty _)
 replace ph0_2 := ph0_2.frame RTAct.lasts fr1 (Dj.empty _)
 refine lq (q_assign rfl) rfl <| WL.nil <| WT.seq <| WT.seq <| WT.region <| lq (q_assign rfl) rfl <| WL.nil <| WT.block <| WT.loop <| WT.mono (l' := [(1, .pointer (some ⟨b_1, 0, none⟩)), (3, v1), (4, .int .i64 0)]) (S' := St w0 Φ_1 [(b_1, .cells #[.string p0.Name, .int .i64 p0.Sal, pv0_0, pv0_1, pv0_2] 49 (0, 0))] [ob v1]) ⟨rfl, rfl, rfl, trivial⟩ (fun w1 hw => (hw.sel (js := [0]) rfl).selO (js := [0]) rfl) ?_
 refine loop_ind (σ := Hp × (List ByteArray) × Value × Int) (fun s => [(1, .pointer (some ⟨b_1, 0, none⟩)), (3, s.2.2.1), (4, .int .i64 s.2.2.2)]) (fun s => St w0 s.1 [(b_1, .cells #[.string p0.Name, .int .i64 p0.Sal, pv0_0, pv0_1, pv0_2] 49 (0, 0))] [ob s.2.2.1]) (fun m s => m_s_PosVars_l1 N p0 m s.2.1 s.2.2.2 = some r ∧ (OSl RS 9 1 s.1 [] s.2.2.1 s.2.1) ∧ (RSl RTPat 3 s.1 pG0_0 pv0_0 p0.Pats) ∧ (RSl RTCond 11 s.1 pG0_1 pv0_1 p0.Conds) ∧ (RSl RTAct 5 s.1 pG0_2 pv0_2 p0.Acts)) (fun s hm => none_ne (show (none : Option ((List ByteArray))) = some r from hm.1)) (fun n1 ih1 s hm => ?_) N (Φ_1, ([] : List ByteArray), v1, 0) ⟨h, h1, ph0_0, ph0_1, ph0_2⟩
 obtain ⟨Φ_2, s1, u1, s2⟩ := s
 obtain ⟨h, k1, ph0_0, ph0_1, ph0_2⟩ := hm
 replace h : m_s_PosVars_l1 N p0 (n1 + 1) s1 s2 = some r := h
 replace k1 : OSl RS 9 1 Φ_2 [] u1 s1 := k1
 replace ph0_0 : RSl RTPat 3 Φ_2 pG0_0 pv0_0 p0.Pats := ph0_0
 replace ph0_1 : RSl RTCond 11 Φ_2 pG0_1 pv0_1 p0.Conds := ph0_1
 replace ph0_2 : RSl RTAct 5 Φ_2 pG0_2 pv0_2 p0.Acts := ph0_2
 show WT _ _ [(1, .pointer (some ⟨b_1, 0, none⟩)), (3, u1), (4, .int .i64 s2)] (St w0 Φ_2 [(b_1, .cells #[.string p0.Name, .int .i64 p0.Sal, pv0_0, pv0_1, pv0_2] 49 (0, 0))] [ob u1])
 unfold m_s_PosVars_l1 at h
 refine WT.seq <| WT.seq <| WT.region <| lq (q_move rfl) rfl <| lq (q_fieldAddr Fld_49_2 rfl) rfl <| lq (q_load1 T1_45 rfl (fun w1 hw => hw.rgO (i := 0) rfl 2 1 [pv0_0] rfl)) rfl <| lq (q_lenR Sl_45 rfl rfl ph0_0) rfl <| lq (q_lss rfl rfl) rfl <| WL.nil ?_
 refine WT.cond rfl (fun c1 => ?_) (fun c1 => ?_)
 ·replace h := ite_t h c1
  refine WT.skip <| WT.seq <| WT.block <| WT.seq <| WT.region <| lq (q_fieldAddr Fld_49_2 rfl) rfl <| lq (q_load1 T1_45 rfl (fun w1 hw => hw.rgO (i := 0) rfl 2 1 [pv0_0] rfl)) rfl <| lq (q_move rfl) rfl ?_
  obtain ⟨x1, hx1, h⟩ := bind_some h
  obtain ⟨cs1, F1, -, g1, hb1, hs1, r1⟩ := ph0_0.el (idx_some hx1).2.2
  obtain ⟨v2, G1, rfl, hq1, h2⟩ := r1
  obtain rfl := hq1.symm
  refine lq (q_indexAddr Sl_45 rfl rfl ph0_0 hx1) rfl <| lq (q_loadN Tn_114 rfl (fun w1 hw => (g1.of_eq 0 3 rfl rfl : rg _ _ _ [.string x1.Kind, v2, .bool x1.Not]).rangeAt hw.fro) rfl) rfl ?_
  obtain ⟨x2, hx2, h⟩ := bind_some h
  refine lc (k_call (js := []) (R := [ob u1]) Fun_176 rfl rfl (fun w1 hw ap hl => m_s_VarsOf_ok hw.fro N x1 h2  hx2)) rfl (fun v3 Φ_3 F2 q2 => ?_)
  obtain ⟨ap1, fr2, v4, rfl, rfl, h3⟩ := q2
  replace ph0_0 := ph0_0.frame RTPat.lasts fr2 (ap1.o pa0_0)
  replace ph0_1 := ph0_1.frame RTCond.lasts fr2 (ap1.o pa0_1)
  replace ph0_2 := ph0_2.frame RTAct.lasts fr2 (ap1.o pa0_2)
  replace k1 := k1.frame RS.lasts fr2 (ap1.r (i := 0) rfl) (Dj.nil _)
  refine lq (q_assign rfl) rfl <| WL.nil <| WT.seq <| WT.region <| lq (q_assign rfl) rfl <| WL.nil <| WT.block <| WT.loop <| WT.mono (l' := [(1, .pointer (some ⟨b_1, 0, none⟩)), (3, u1), (4, .int .i64 s2), (5, v3), (6, .int .i64 0)]) (S' := St w0 Φ_3 [(b_1, .cells #[.string p0.Name, .int .i64 p0.Sal, pv0_0, pv0_1, pv0_2] 49 (0, 0))] [ob v3, ob u1]) ⟨rfl, rfl, rfl, rfl, rfl, trivial⟩ (fun w1 hw => (hw.sel (js := [0, 0]) rfl).selO (js := [0]) rfl) ?_
  refine loop_ind (σ := Hp × (List ByteArray) × Value × Int) (fun s => [(1, .pointer (some ⟨b_1, 0, none⟩)), (3, s.2.2.1), (4, .int .i64 s2), (5, v3), (6, .int .i64 s.2.2.2)]) (fun s => St w0 s.1 [(b_1, .cells #[.string p0.Name, .int .i64 p0.Sal, pv0_0, pv0_1, pv0_2] 49 (0, 0))] [ob v3, ob s.2.2.1]) (fun m s => m_s_PosVars_l2 N p0 s2 (m_s_PosVars_l1 N p0 n1) x2 m s.2.1 s.2.2.2 = some r ∧ (OSl RS 9 1 s.1 [] s.2.2.1 s.2.1) ∧ (OSl RS 9 1 s.1 [] v3 x2) ∧ (RSl RTPat 3 s.1 pG0_0 pv0_0 p0.Pats) ∧ (RSl RTCond 11 s.1 pG0_1 pv0_1 p0.Conds) ∧ (RSl RTAct 5 s.1 pG0_2 pv0_2 p0.Acts)) (fun s hm => none_ne (show (none : Option ((List ByteArray))) = some r from hm.1)) (fun n2 ih2 s hm => ?_) N (Φ_3, s1, u1, 0) ⟨h, k1, h3, ph0_0, ph0_1, ph0_2⟩
  obtain ⟨Φ_4, s3, u2, s4⟩ := s
  obtain ⟨h, k2, h3, ph0_0, ph0_1, ph0_2⟩ := hm
  replace h : m_s_PosVars_l2 N p0 s2 (m_s_PosVars_l1 N p0 n1) x2 (n2 + 1) s3 s4 = some r := h
  replace k2 : OSl RS 9 1 Φ_4 [] u2 s3 := k2
  replace h3 : OSl RS 9 1 Φ_4 [] v3 x2 := h3
  replace ph0_0 : RSl RTPat 3 Φ_4 pG0_0 pv0_0 p0.Pats := ph0_0
  replace ph0_1 : RSl RTCond 11 Φ_4 pG0_1 pv0_1 p0.Conds := ph0_1
  replace ph0_2 : RSl RTAct 5 Φ_4 pG0_2 pv0_2 p0.Acts := ph0_2
  show WT _ _ [(1, .pointer (some ⟨b_1, 0, none⟩)), (3, u2), (4, .int .i64 s2), (5, v3), (6, .int .i64 s4)] (St w0 Φ_4 [(b_1, .cells #[.string p0.Name, .int .i64 p0.Sal, pv0_0, pv0_1, pv0_2] 49 (0, 0))] [ob v3, ob u2])
  unfold m_s_PosVars_l2 at h
  refine WT.seq <| WT.seq <| WT.region <| lq (q_move rfl) rfl <| lq (q_move rfl) rfl <| lq (q_lenR Sl_137 rfl rfl h3.rsl) rfl <| lq (q_lss rfl rfl) rfl <| lq (q_move rfl) rfl ?_
  obtain ⟨b1, hb_1, h⟩ := bind_some h
  refine WL.cutN 8 [(33, .bool b1), (1, .pointer (some ⟨b_1, 0, none⟩)), (3, u2), (4, .int .i64 s2), (5, v3), (6, .int .i64 s4)] ?_ (fun K => ?_)
  rotate_left
  ·refine WL.split (d := 25) rfl (fun c2 => ?_) (fun c2 => ?_)
   ·replace hb_1 := ite_t hb_1 c2
    refine WL.yes rfl rfl <| lq (q_fieldAddr Fld_49_2 rfl) rfl <| WL.yes rfl rfl <| lq (q_load1 T1_45 rfl (fun w1 hw => hw.rgO (i := 0) rfl 2 1 [pv0_0] rfl)) rfl <| WL.yes rfl rfl <| lq (q_move rfl) rfl <| WL.yes rfl rfl ?_
    obtain ⟨x3, hx3, hb_1⟩ := bind_some hb_1
    obtain ⟨cs2, F3, -, g2, hb2, hs2, r2⟩ := ph0_0.el (idx_some hx3).2.2
    obtain ⟨v5, G2, rfl, hq2, h4⟩ := r2
    obtain rfl := hq2.symm
    refine lq (q_indexAddr Sl_45 rfl rfl ph0_0 hx3) rfl <| WL.yes rfl rfl <| lq (q_fieldAddr Fld_114_2 rfl) rfl <| WL.yes rfl rfl <| lq (q_load1 T1_4 rfl (fun w1 hw => (g2.of_eq 2 1 rfl rfl : rg _ _ _ [.bool x3.Not]).rangeAt hw.fro)) rfl <| WL.yes rfl rfl <| lq (q_not rfl) rfl <| WL.q (q_pick1 rfl rfl) rfl rfl rfl ?_
    cases hb_1
    exact WL.keep (by exact ⟨rfl, rfl, rfl, rfl, rfl, rfl, trivial⟩) K
   ·replace hb_1 := ite_f hb_1 c2
    refine WL.no rfl rfl rfl rfl <| WL.no rfl rfl rfl rfl <| WL.no rfl rfl rfl rfl <| WL.no rfl rfl rfl rfl <| WL.no rfl rfl rfl rfl <| WL.no rfl rfl rfl rfl <| WL.no rfl rfl rfl rfl <| WL.q (q_pick0 rfl rfl) rfl rfl rfl ?_
    cases hb_1
    exact WL.keep (by exact ⟨rfl, rfl, rfl, rfl, rfl, rfl, trivial⟩) K
  refine WL.nil ?_
  refine WT.cond rfl (fun c3 => ?_) (fun c3 => ?_)
  ·replace h := ite_t h c3
   refine WT.skip <| WT.seq <| WT.block <| WT.seq <| WT.region <| lq (q_move rfl) rfl <| lq (q_move rfl) rfl <| lq (q_move rfl) rfl ?_
   obtain ⟨x4, hx4, h⟩ := bind_some h
   obtain ⟨cs3, F4, -, g3, hb3, hs3, r3⟩ := h3.elS (idx_some hx4).2.2
   obtain ⟨rfl, -⟩ := r3
   refine lq (q_indexAddr Sl_137 rfl rfl h3.rsl hx4) rfl <| lq (q_load1 T1_9 rfl (fun w1 hw => (g3.of_eq 0 1 rfl rfl : rg _ _ _ [.string x4]).rangeAt hw.fro)) rfl ?_
   obtain ⟨x5, hx5, h⟩ := bind_some h
   refine lp (p_call Fun_177 rfl (fun w1 hw => m_s_l6Has_ok hw.fro N s3 x4 k2.rsl hx5)) rfl <| lq (q_not rfl) rfl <| WL.nil ?_
   refine WT.cond rfl (fun c4 => ?_) (fun c4 => ?_)
   ·replace h := ite_t h c4
    refine WT.region <| lq (q_move rfl) rfl <| lq (q_move rfl) rfl <| lq (q_move rfl) rfl ?_
    obtain ⟨x6, hx6, h⟩ := bind_some h
    obtain ⟨cs4, F5, -, g4, hb4, hs4, r4⟩ := h3.elS (idx_some hx6).2.2
    obtain ⟨rfl, -⟩ := r4
    refine lq (q_indexAddr Sl_137 rfl rfl h3.rsl hx6) rfl <| lq (q_load1 T1_9 rfl (fun w1 hw => (g4.of_eq 0 1 rfl rfl : rg _ _ _ [.string x6]).rangeAt hw.fro)) rfl ?_
    have rc2 : RC RS 1 Φ_4 ([[]] : List (List Nat)) [.string x6] ([x6] : List ByteArray) := RC.cons (c := [.string x6]) (cells := []) ⟨rfl, rfl⟩ rfl (RC.nil _ _ _)
    refine le' (e_lit (vs := [(0, .string x6)]) (C := #[.string x6]) RS.lasts Sl_137 Zr_9 rfl rfl rfl rfl (fill_made MC_9_1 (fill_cons (cells := [.string ⟨#[]⟩]) (c := [.string x6]) (C' := [.string x6]) rfl rfl rfl rfl rfl (fill_nil))) rfl rc2 rfl (by simpa using Kw.nil)) rfl (fun v6 Φ_5 D2 q3 => ?_)
    obtain ⟨fr3, h5⟩ := q3
    replace h5 : OSl RS 9 1 Φ_5 [] v6 ([x6] : List ByteArray) := by simpa using h5
    replace ph0_0 := ph0_0.frame RTPat.lasts fr3 (Dj.empty _)
    replace ph0_1 := ph0_1.frame RTCond.lasts fr3 (Dj.empty _)
    replace ph0_2 := ph0_2.frame RTAct.lasts fr3 (Dj.empty _)
    replace k2 := k2.frame RS.lasts fr3 (Dj.empty _) (Dj.empty _)
    replace h3 := h3.frame RS.lasts fr3 (Dj.empty _) (Dj.empty _)
    obtain ⟨x7, hx7, h⟩ := bind_some h
    refine le' (e_appF RS.lasts RS.one RS.flat Sl_137 Ei_9 rfl rfl rfl rfl rfl (js := [2]) (Rr := [ob v6, ob v3]) rfl k2 h5.rsl hx7) rfl (fun v7 Φ_6 D3 q4 => ?_)
    obtain ⟨⟨ap2, fr4⟩, h6⟩ := q4
    replace ph0_0 := ph0_0.frame RTPat.lasts fr4 (ap2.o pa0_0)
    replace ph0_1 := ph0_1.frame RTCond.lasts fr4 (ap2.o pa0_1)
    replace ph0_2 := ph0_2.frame RTAct.lasts fr4 (ap2.o pa0_2)
    replace h3 := h3.frame RS.lasts fr4 (ap2.r (i := 1) rfl) (Dj.nil _)
    refine lq (q_assign rfl) rfl <| WL.nil <| WT.inBlock <| WT.region <| lq (q_move rfl) rfl <| lq (q_add rfl rfl) rfl <| lq (q_assign rfl) rfl <| WL.nil ?_
    refine WT.inLoop (WT.mono (l' := [(1, .pointer (some ⟨b_1, 0, none⟩)), (3, v7), (4, .int .i64 s2), (5, v3), (6, .int .i64 (IntKind.i64.wrap (s4 + 1)))]) (S' := St w0 Φ_6 [(b_1, .cells #[.string p0.Name, .int .i64 p0.Sal, pv0_0, pv0_1, pv0_2] 49 (0, 0))] [ob v3, ob v7]) ⟨rfl, rfl, rfl, rfl, rfl, trivial⟩ (fun w1 hw => (hw.sel (js := [2, 0]) rfl).selO (js := [0]) rfl) ?_)
    exact ih2 (Φ_6, x7, v7, IntKind.i64.wrap (s4 + 1)) ⟨h, h6, h3, ph0_0, ph0_1, ph0_2⟩
   replace h := ite_f h c4
   refine WT.skip <| WT.inBlock <| WT.region <| lq (q_move rfl) rfl <| lq (q_add rfl rfl) rfl <| lq (q_assign rfl) rfl <| WL.nil ?_
   refine WT.inLoop (WT.mono (l' := [(1, .pointer (some ⟨b_1, 0, none⟩)), (3, u2), (4, .int .i64 s2), (5, v3), (6, .int .i64 (IntKind.i64.wrap (s4 + 1)))]) (S' := St w0 Φ_4 [(b_1, .cells #[.string p0.Name, .int .i64 p0.Sal, pv0_0, pv0_1, pv0_2] 49 (0, 0))] [ob v3, ob u2]) ⟨rfl, rfl, rfl, rfl, rfl, trivial⟩ (fun w1 hw => (hw.sel (js := [0, 0]) rfl).selO (js := [0]) rfl) ?_)
   exact ih2 (Φ_4, s3, u2, IntKind.i64.wrap (s4 + 1)) ⟨h, k2, h3, ph0_0, ph0_1, ph0_2⟩
  replace h := ite_f h c3
  refine WT.exit rfl <| WT.inBlock <| WT.region <| lq (q_move rfl) rfl <| lq (q_add rfl rfl) rfl <| lq (q_assign rfl) rfl <| WL.nil ?_
  refine WT.inLoop (WT.mono (l' := [(1, .pointer (some ⟨b_1, 0, none⟩)), (3, u2), (4, .int .i64 (IntKind.i64.wrap (s2 + 1)))]) (S' := St w0 Φ_4 [(b_1, .cells #[.string p0.Name, .int .i64 p0.Sal, pv0_0, pv0_1, pv0_2] 49 (0, 0))] [ob u2]) ⟨rfl, rfl, rfl, trivial⟩ (fun w1 hw => (hw.sel (js := [1]) rfl).selO (js := [0]) rfl) ?_)
  exact ih1 (Φ_4, s3, u2, IntKind.i64.wrap (s2 + 1)) ⟨h, k2, ph0_0, ph0_1, ph0_2⟩
 replace h := ite_f h c1
 refine WT.exit rfl <| WT.seq <| WT.region <| lq (q_move rfl) rfl <| lq (q_assign rfl) rfl <| WL.nil ?_
 refine WT.ret Tryz.func115 (resOk.one rfl) (fun w1 hw => ?_)
 subst hb0
 cases h
 refine postG_of_St (js := [0]) hw rfl ⟨u1, rfl, rfl, k1⟩
theorem m_s_l7Arg_ok {Φ : Hp} {w : World} (hΦ : In Φ w) (N : Nat) (p0 : Tl1Cur) {pv0_0 : Value} {pG0_0 : List Nat} {pb0 : Nat} (ph0_0 : RSl (RI .u8) 1 Φ pG0_0 pv0_0 p0.b) (pp0 : Φ pb0 = some (.cells #[pv0_0, .int .i64 p0.i, .int .i64 p0.h] 159 (0, 0))) (pd0_0 : Dj pG0_0 [[pb0]].flatten) (hB : [[pb0]].flatten.Nodup) (hlt : ∀ k ∈ [[pb0]].flatten, k < w.heap.size) {r : TArg × Tl1Cur} (h : m_s_l7Arg N p0 = some r) :
  Calls Tryz.prog 178 [.pointer (some ⟨pb0, 0, none⟩)].toArray w (PostG Φ w [[pb0]].flatten (fun Φ' Fs v => v = .agg [.int .i64 r.1.K, .string r.1.S, .int .i64 r.1.V.K, .int .i64 r.1.V.N, .string r.1.V.S].toArray ∧ Fs = [[pb0]] ∧ r.2.b = p0.b ∧ Φ' pb0 = some (.cells #[pv0_0, .int .i64 r.2.i, .int .i64 r.2.h] 159 (0, 0)))) := by
 refine enter Tryz.func178 rfl Tryz.ntmps178 rfl (St.start hΦ [[pb0]] hB hlt) ?_
 have pa0_0 : Old ⟨w, [[pb0]].flatten, Φ⟩ pG0_0 := Old.mk hΦ ph0_0.kn pd0_0
 unfold m_s_l7Arg at h
 refine WT.seq <| WT.region ?_
 refine ln (n_alloc (C := #[.int .i64 0, .string (⟨#[]⟩ : ByteArray), .int .i64 0, .int .i64 0, .string (⟨#[]⟩ : ByteArray)]) Zr_126 rfl) rfl (fun b_1 => ?_)
 refine WL.nil <| WT.seq <| WT.seq <| WT.region <| lq (q_move rfl) rfl ?_
 obtain ⟨x1, hx1, h⟩ := bind_some h
 refine lc (k_call (js := [0]) (R := []) Fun_47 rfl rfl (fun w1 hw ap hl => m_s_l1Once_ok hw.fro N p0 3 ph0_0 pp0 (ap.o pa0_0) ap.nd hl hx1)) rfl (fun v1 Φ_1 F1 q1 => ?_)
 obtain ⟨ap1, fr1, rfl, rfl, e1, h1⟩ := q1
 replace ph0_0 := ph0_0.frame RI.lasts fr1 (ap1.o pa0_0)
 refine WL.nil ?_
 refine WT.cond rfl (fun c1 => ?_) (fun c1 => ?_)
 ·replace h := ite_t h c1
  refine WT.seq <| WT.region <| lq (q_move rfl) rfl ?_
  obtain ⟨x2, hx2, h⟩ := bind_some h
  refine lc (k_call (js := [0]) (R := []) Fun_183 rfl rfl (fun w1 hw ap hl => m_s_l3Small_ok hw.fro N (⟨p0.b, x1.2.i, x1.2.h⟩ : Tl1Cur) ph0_0 h1 (ap.o pa0_0) ap.nd hl hx2)) rfl (fun v2 Φ_2 F2 q2 => ?_)
  obtain ⟨ap2, fr2, rfl, rfl, e2, h2⟩ := q2
  replace ph0_0 := ph0_0.frame RI.lasts fr2 (ap2.o pa0_0)
  obtain ⟨x3, hx3, h⟩ := bind_some h
  refine lp (p_call Fun_180 rfl (fun w1 hw => m_s_l6Val_ok hw.fro N x2.1 hx3)) rfl <| ls (s_store (i := 0) (vs := [.int .i64 x3.K, .string x3.S, .int .i64 x3.V.K, .int .i64 x3.V.N, .string x3.V.S]) (C' := [.int .i64 x3.K, .string x3.S, .int .i64 x3.V.K, .int .i64 x3.V.N, .string x3.V.S]) (O' := [(b_1, .cells #[.int .i64 x3.K, .string x3.S, .int .i64 x3.V.K, .int .i64 x3.V.N, .string x3.V.S] 126 (0, 0))]) Sz_126 rfl rfl rfl rfl rfl rfl ⟨rfl, rfl, rfl, rfl, rfl, trivial⟩ rfl rfl) rfl ?_
  refine WL.nil ?_
  refine WT.ret Tryz.func178 (resOk.one (rv_cell Tn_126 rfl (fun w1 hw => hw.rgO (i := 0) rfl 0 5 [.int .i64 x3.K, .string x3.S, .int .i64 x3.V.K, .int .i64 x3.V.N, .string x3.V.S] rfl) rfl)) (fun w1 hw => ?_)
  cases h
  refine postG_of_St (js := [0]) hw rfl ⟨rfl, rfl, rfl, h2⟩
 replace h := ite_f h c1
 refine WT.skip <| WT.seq <| WT.region <| lq (q_move rfl) rfl ?_
 have rc1 : RC RS 1 Φ_1 ([[], []] : List (List Nat)) [.string (⟨#[88]⟩ : ByteArray), .string (⟨#[89]⟩ : ByteArray)] ([(⟨#[88]⟩ : ByteArray), (⟨#[89]⟩ : ByteArray)] : List ByteArray) := RC.cons (c := [.string (⟨#[88]⟩ : ByteArray)]) (cells := [.string (⟨#[89]⟩ : ByteArray)]) ⟨rfl, rfl⟩ rfl (RC.cons (c := [.string (⟨#[89]⟩ : ByteArray)]) (cells := []) ⟨rfl, rfl⟩ rfl (RC.nil _ _ _))
 refine le' (e_lit (vs := [(0, .string (⟨#[88]⟩ : ByteArray)), (1, .string (⟨#[89]⟩ : ByteArray))]) (C := #[.string (⟨#[88]⟩ : ByteArray), .string (⟨#[89]⟩ : ByteArray)]) RS.lasts Sl_137 Zr_9 rfl rfl rfl rfl (fill_made MC_9_2 (fill_cons (cells := [.string ⟨#[]⟩, .string ⟨#[]⟩]) (c := [.string (⟨#[88]⟩ : ByteArray)]) (C' := [.string (⟨#[88]⟩ : ByteArray), .string ⟨#[]⟩]) rfl rfl rfl rfl rfl (fill_cons (cells := [.string (⟨#[88]⟩ : ByteArray), .string ⟨#[]⟩]) (c := [.string (⟨#[89]⟩ : ByteArray)]) (C' := [.string (⟨#[88]⟩ : ByteArray), .string (⟨#[89]⟩ : ByteArray)]) rfl rfl rfl rfl rfl (fill_nil)))) rfl rc1 rfl (by simpa using Kw.nil)) rfl (fun v3 Φ_3 D1 q3 => ?_)
 obtain ⟨fr3, h3⟩ := q3
 replace h3 : OSl RS 9 1 Φ_3 [] v3 ([(⟨#[88]⟩ : ByteArray), (⟨#[89]⟩ : ByteArray)] : List ByteArray) := by simpa using h3
 replace ph0_0 := ph0_0.frame RI.lasts fr3 (Dj.empty _)
 replace h1 := fr3 _ _ (by simp) h1
 obtain ⟨x4, hx4, h⟩ := bind_some h
 refine lc (k_call (js := [1]) (R := [ob v3]) Fun_101 rfl rfl (fun w1 hw ap hl => m_s_l1Str_ok hw.fro N (⟨p0.b, x1.2.i, x1.2.h⟩ : Tl1Cur) ([(⟨#[88]⟩ : ByteArray), (⟨#[89]⟩ : ByteArray)] : List ByteArray) ph0_0 h1 h3.rsl (ap.o pa0_0) (Dj.app (ap.r (i := 0) rfl) (Dj.nil _)) ap.nd hl hx4)) rfl (fun v4 Φ_4 F3 q4 => ?_)
 obtain ⟨ap3, fr4, rfl, rfl, e3, h4⟩ := q4
 replace ph0_0 := ph0_0.frame RI.lasts fr4 (ap3.o pa0_0)
 obtain ⟨x5, hx5, h⟩ := bind_some h
 refine lp (p_call Fun_181 rfl (fun w1 hw => m_s_l6Var_ok hw.fro N x4.1 hx5)) rfl <| ls (s_store (i := 0) (vs := [.int .i64 x5.K, .string x5.S, .int .i64 x5.V.K, .int .i64 x5.V.N, .string x5.V.S]) (C' := [.int .i64 x5.K, .string x5.S, .int .i64 x5.V.K, .int .i64 x5.V.N, .string x5.V.S]) (O' := [(b_1, .cells #[.int .i64 x5.K, .string x5.S, .int .i64 x5.V.K, .int .i64 x5.V.N, .string x5.V.S] 126 (0, 0))]) Sz_126 rfl rfl rfl rfl rfl rfl ⟨rfl, rfl, rfl, rfl, rfl, trivial⟩ rfl rfl) rfl ?_
 refine WL.nil ?_
 refine WT.ret Tryz.func178 (resOk.one (rv_cell Tn_126 rfl (fun w1 hw => hw.rgO (i := 0) rfl 0 5 [.int .i64 x5.K, .string x5.S, .int .i64 x5.V.K, .int .i64 x5.V.N, .string x5.V.S] rfl) rfl)) (fun w1 hw => ?_)
 cases h
 refine postG_of_St (js := [0]) hw rfl ⟨rfl, rfl, rfl, h4⟩
theorem m_s_l7Draw_ok {Φ : Hp} {w : World} (hΦ : In Φ w) (N : Nat) (p0 : Tl1Cur) {pv0_0 : Value} {pG0_0 : List Nat} {pb0 : Nat} (ph0_0 : RSl (RI .u8) 1 Φ pG0_0 pv0_0 p0.b) (pp0 : Φ pb0 = some (.cells #[pv0_0, .int .i64 p0.i, .int .i64 p0.h] 159 (0, 0))) (pd0_0 : Dj pG0_0 [[pb0]].flatten) (hB : [[pb0]].flatten.Nodup) (hlt : ∀ k ∈ [[pb0]].flatten, k < w.heap.size) {r : TCond × Tl1Cur} (h : m_s_l7Draw N p0 = some r) :
  Calls Tryz.prog 116 [.pointer (some ⟨pb0, 0, none⟩)].toArray w (PostG Φ w [[pb0]].flatten (fun Φ' Fs v => v = .agg [.int .i64 r.1.Op, .int .i64 r.1.L.K, .string r.1.L.S, .int .i64 r.1.L.V.K, .int .i64 r.1.L.V.N, .string r.1.L.V.S, .int .i64 r.1.R.K, .string r.1.R.S, .int .i64 r.1.R.V.K, .int .i64 r.1.R.V.N, .string r.1.R.V.S].toArray ∧ Fs = [[pb0]] ∧ r.2.b = p0.b ∧ Φ' pb0 = some (.cells #[pv0_0, .int .i64 r.2.i, .int .i64 r.2.h] 159 (0, 0)))) := by
 refine enter Tryz.func116 rfl Tryz.ntmps116 rfl (St.start hΦ [[pb0]] hB hlt) ?_
 have pa0_0 : Old ⟨w, [[pb0]].flatten, Φ⟩ pG0_0 := Old.mk hΦ ph0_0.kn pd0_0
 unfold m_s_l7Draw at h
 refine WT.seq <| WT.region ?_
 refine ln (n_alloc (C := #[.int .i64 0, .int .i64 0, .string (⟨#[]⟩ : ByteArray), .int .i64 0, .int .i64 0, .string (⟨#[]⟩ : ByteArray), .int .i64 0, .string (⟨#[]⟩ : ByteArray), .int .i64 0, .int .i64 0, .string (⟨#[]⟩ : ByteArray)]) Zr_128 rfl) rfl (fun b_1 => ?_)
 refine WL.nil <| WT.seq <| WT.region <| lq (q_move rfl) rfl ?_
 obtain ⟨x1, hx1, h⟩ := bind_some h
 refine lc (k_call (js := [0]) (R := []) Fun_59 rfl rfl (fun w1 hw ap hl => m_s_l1Below_ok hw.fro N p0 3 ph0_0 pp0 (ap.o pa0_0) ap.nd hl hx1)) rfl (fun v1 Φ_1 F1 q1 => ?_)
 obtain ⟨ap1, fr1, rfl, rfl, e1, h1⟩ := q1
 replace ph0_0 := ph0_0.frame RI.lasts fr1 (ap1.o pa0_0)
 refine lq (q_add rfl rfl) rfl <| lq (q_move rfl) rfl ?_
 obtain ⟨x2, hx2, h⟩ := bind_some h
 refine lc (k_call (js := [0]) (R := []) Fun_178 rfl rfl (fun w1 hw ap hl => m_s_l7Arg_ok hw.fro N (⟨p0.b, x1.2.i, x1.2.h⟩ : Tl1Cur) ph0_0 h1 (ap.o pa0_0) ap.nd hl hx2)) rfl (fun v2 Φ_2 F2 q2 => ?_)
 obtain ⟨ap2, fr2, rfl, rfl, e2, h2⟩ := q2
 replace ph0_0 := ph0_0.frame RI.lasts fr2 (ap2.o pa0_0)
 refine lq (q_move rfl) rfl ?_
 obtain ⟨x3, hx3, h⟩ := bind_some h
 refine lc (k_call (js := [0]) (R := []) Fun_178 rfl rfl (fun w1 hw ap hl => m_s_l7Arg_ok hw.fro N (⟨p0.b, x2.2.i, x2.2.h⟩ : Tl1Cur) ph0_0 h2 (ap.o pa0_0) ap.nd hl hx3)) rfl (fun v3 Φ_3 F3 q3 => ?_)
 obtain ⟨ap3, fr3, rfl, rfl, e3, h3⟩ := q3
 replace ph0_0 := ph0_0.frame RI.lasts fr3 (ap3.o pa0_0)
 refine lq (q_build (vs := [(0, .int .i64 (IntKind.i64.wrap (1 + x1.1))), (1, .agg [.int .i64 x2.1.K, .string x2.1.S, .int .i64 x2.1.V.K, .int .i64 x2.1.V.N, .string x2.1.V.S].toArray), (2, .agg [.int .i64 x3.1.K, .string x3.1.S, .int .i64 x3.1.V.K, .int .i64 x3.1.V.N, .string x3.1.V.S].toArray)]) (C := #[.int .i64 (IntKind.i64.wrap (1 + x1.1)), .int .i64 x2.1.K, .string x2.1.S, .int .i64 x2.1.V.K, .int .i64 x2.1.V.N, .string x2.1.V.S, .int .i64 x3.1.K, .string x3.1.S, .int .i64 x3.1.V.K, .int .i64 x3.1.V.N, .string x3.1.V.S]) Pl_128 Zr_128 rfl (fill_cons (cells := [.int .i64 0, .int .i64 0, .string ⟨#[]⟩, .int .i64 0, .int .i64 0, .string ⟨#[]⟩, .int .i64 0, .string ⟨#[]⟩, .int .i64 0, .int .i64 0, .string ⟨#[]⟩]) (c := [.int .i64 (IntKind.i64.wrap (1 + x1.1))]) (C' := [.int .i64 (IntKind.i64.wrap (1 + x1.1)), .int .i64 0, .string ⟨#[]⟩, .int .i64 0, .int .i64 0, .string ⟨#[]⟩, .int .i64 0, .string ⟨#[]⟩, .int .i64 0, .int .i64 0, .string ⟨#[]⟩]) rfl rfl rfl rfl rfl (fill_cons (cells := [.int .i64 (IntKind.i64.wrap (1 + x1.1)), .int .i64 0, .string ⟨#[]⟩, .int .i64 0, .int .i64 0, .string ⟨#[]⟩, .int .i64 0, .string ⟨#[]⟩, .int .i64 0, .int .i64 0, .string ⟨#[]⟩]) (c := [.int .i64 x2.1.K, .string x2.1.S, .int .i64 x2.1.V.K, .int .i64 x2.1.V.N, .string x2.1.V.S]) (C' := [.int .i64 (IntKind.i64.wrap (1 + x1.1)), .int .i64 x2.1.K, .string x2.1.S, .int .i64 x2.1.V.K, .int .i64 x2.1.V.N, .string x2.1.V.S, .int .i64 0, .string ⟨#[]⟩, .int .i64 0, .int .i64 0, .string ⟨#[]⟩]) rfl rfl rfl rfl rfl (fill_cons (cells := [.int .i64 (IntKind.i64.wrap (1 + x1.1)), .int .i64 x2.1.K, .string x2.1.S, .int .i64 x2.1.V.K, .int .i64 x2.1.V.N, .string x2.1.V.S, .int .i64 0, .string ⟨#[]⟩, .int .i64 0, .int .i64 0, .string ⟨#[]⟩]) (c := [.int .i64 x3.1.K, .string x3.1.S, .int .i64 x3.1.V.K, .int .i64 x3.1.V.N, .string x3.1.V.S]) (C' := [.int .i64 (IntKind.i64.wrap (1 + x1.1)), .int .i64 x2.1.K, .string x2.1.S, .int .i64 x2.1.V.K, .int .i64 x2.1.V.N, .string x2.1.V.S, .int .i64 x3.1.K, .string x3.1.S, .int .i64 x3.1.V.K, .int .i64 x3.1.V.N, .string x3.1.V.S]) rfl rfl rfl rfl rfl (fill_nil))))) rfl ?_
 refine ls (s_store (i := 0) (vs := [.int .i64 (IntKind.i64.wrap (1 + x1.1)), .int .i64 x2.1.K, .string x2.1.S, .int .i64 x2.1.V.K, .int .i64 x2.1.V.N, .string x2.1.V.S, .int .i64 x3.1.K, .string x3.1.S, .int .i64 x3.1.V.K, .int .i64 x3.1.V.N, .string x3.1.V.S]) (C' := [.int .i64 (IntKind.i64.wrap (1 + x1.1)), .int .i64 x2.1.K, .string x2.1.S, .int .i64 x2.1.V.K, .int .i64 x2.1.V.N, .string x2.1.V.S, .int .i64 x3.1.K, .string x3.1.S, .int .i64 x3.1.V.K, .int .i64 x3.1.V.N, .string x3.1.V.S]) (O' := [(b_1, .cells #[.int .i64 (IntKind.i64.wrap (1 + x1.1)), .int .i64 x2.1.K, .string x2.1.S, .int .i64 x2.1.V.K, .int .i64 x2.1.V.N, .string x2.1.V.S, .int .i64 x3.1.K, .string x3.1.S, .int .i64 x3.1.V.K, .int .i64 x3.1.V.N, .string x3.1.V.S] 128 (0, 0))]) Sz_128 rfl rfl rfl rfl rfl rfl ⟨rfl, rfl, rfl, rfl, rfl, rfl, rfl, rfl, rfl, rfl, rfl, trivial⟩ rfl rfl) rfl ?_
 refine WL.nil ?_
 refine WT.ret Tryz.func116 (resOk.one (rv_cell Tn_128 rfl (fun w1 hw => hw.rgO (i := 0) rfl 0 11 [.int .i64 (IntKind.i64.wrap (1 + x1.1)), .int .i64 x2.1.K, .string x2.1.S, .int .i64 x2.1.V.K, .int .i64 x2.1.V.N, .string x2.1.V.S, .int .i64 x3.1.K, .string x3.1.S, .int .i64 x3.1.V.K, .int .i64 x3.1.V.N, .string x3.1.V.S] rfl) rfl)) (fun w1 hw => ?_)
 cases h
 refine postG_of_St (js := [0]) hw rfl ⟨rfl, rfl, rfl, h3⟩
theorem m_s_l9Known_ok {Φ : Hp} {w : World} (hΦ : In Φ w) (N : Nat) (p0 : TArg) (p1 : (List ByteArray)) {pv1 : Value} {pG1 : List Nat} (ph1 : RSl RS 1 Φ pG1 pv1 p1) {r : Bool} (h : m_s_l9Known N p0 p1 = some r) :
  Calls Tryz.prog 179 [.agg [.int .i64 p0.K, .string p0.S, .int .i64 p0.V.K, .int .i64 p0.V.N, .string p0.V.S].toArray, pv1].toArray w (Post (.bool r) w) := by
 refine enter Tryz.func179 rfl Tryz.ntmps179 rfl (St.start0 hΦ) ?_
 unfold m_s_l9Known at h
 refine WT.seq <| WT.region ?_
 refine ln (n_box (C := #[.int .i64 p0.K, .string p0.S, .int .i64 p0.V.K, .int .i64 p0.V.N, .string p0.V.S]) rfl rfl) rfl (fun b_1 => ?_)
 refine lq (q_assign rfl) rfl <| WL.nil <| WT.seq <| WT.region <| lq (q_fieldAddr Fld_126_0 rfl) rfl <| lq (q_load1 T1_3 rfl (fun w1 hw => hw.rgO (i := 0) rfl 0 1 [.int .i64 p0.K] rfl)) rfl <| lq (q_neq rfl rfl) rfl <| lq (q_move rfl) rfl ?_
 obtain ⟨b1, hb_1, h⟩ := bind_some h
 refine WL.cutN 5 [(13, .bool b1), (4, .bool false)] ?_ (fun K => ?_)
 rotate_left
 ·refine WL.split (d := 8) rfl (fun c1 => ?_) (fun c1 => ?_)
  ·replace hb_1 := ite_t hb_1 c1
   refine WL.no rfl rfl rfl rfl <| WL.no rfl rfl rfl rfl <| WL.no rfl rfl rfl rfl <| WL.no rfl rfl rfl rfl <| WL.q (q_pick1 rfl rfl) rfl rfl rfl ?_
   cases hb_1
   exact WL.keep (by exact ⟨rfl, rfl, trivial⟩) K
  ·replace hb_1 := ite_f hb_1 c1
   refine WL.yes rfl rfl <| lq (q_move rfl) rfl <| WL.yes rfl rfl <| lq (q_fieldAddr Fld_126_1 rfl) rfl <| WL.yes rfl rfl <| lq (q_load1 T1_9 rfl (fun w1 hw => hw.rgO (i := 0) rfl 1 1 [.string p0.S] rfl)) rfl <| WL.yes rfl rfl ?_
   obtain ⟨x1, hx1, hb_1⟩ := bind_some hb_1
   refine lp (p_call Fun_177 rfl (fun w1 hw => m_s_l6Has_ok hw.fro N p1 p0.S ph1 hx1)) rfl <| WL.q (q_pick0 rfl rfl) rfl rfl rfl ?_
   cases hb_1
   exact WL.keep (by exact ⟨rfl, rfl, trivial⟩) K
 refine lq (q_assign rfl) rfl <| WL.nil ?_
 refine WT.ret Tryz.func179 (resOk.one rfl) (fun w1 hw => ?_)
 cases h
 exact post_of_St hw
theorem m_s_l9Fit_ok {Φ : Hp} {w : World} (hΦ : In Φ w) (N : Nat) (p0 : TArg) (p1 : (List ByteArray)) {pv1 : Value} {pG1 : List Nat} (ph1 : RSl RS 1 Φ pG1 pv1 p1) {r : TArg} (h : m_s_l9Fit N p0 p1 = some r) :
  Calls Tryz.prog 117 [.agg [.int .i64 p0.K, .string p0.S, .int .i64 p0.V.K, .int .i64 p0.V.N, .string p0.V.S].toArray, pv1].toArray w (Post (.agg [.int .i64 r.K, .string r.S, .int .i64 r.V.K, .int .i64 r.V.N, .string r.V.S].toArray) w) := by
 refine enter Tryz.func117 rfl Tryz.ntmps117 rfl (St.start0 hΦ) ?_
 unfold m_s_l9Fit at h
 refine WT.seq <| WT.region ?_
 refine ln (n_box (C := #[.int .i64 p0.K, .string p0.S, .int .i64 p0.V.K, .int .i64 p0.V.N, .string p0.V.S]) rfl rfl) rfl (fun b_1 => ?_)
 refine ln (n_alloc (C := #[.int .i64 0, .string (⟨#[]⟩ : ByteArray), .int .i64 0, .int .i64 0, .string (⟨#[]⟩ : ByteArray)]) Zr_126 rfl) rfl (fun b_2 => ?_)
 refine WL.nil <| WT.seq <| WT.seq <| WT.region <| lq (q_loadN Tn_126 rfl (fun w1 hw => hw.rgO (i := 1) rfl 0 5 [.int .i64 p0.K, .string p0.S, .int .i64 p0.V.K, .int .i64 p0.V.N, .string p0.V.S] rfl) rfl) rfl <| lq (q_move rfl) rfl ?_
 obtain ⟨x1, hx1, h⟩ := bind_some h
 refine lp (p_call Fun_179 rfl (fun w1 hw => m_s_l9Known_ok hw.fro N p0 p1 ph1 hx1)) rfl <| WL.nil ?_
 refine WT.cond rfl (fun c1 => ?_) (fun c1 => ?_)
 ·replace h := ite_t h c1
  refine WT.seq <| WT.region <| lq (q_loadN Tn_126 rfl (fun w1 hw => hw.rgO (i := 1) rfl 0 5 [.int .i64 p0.K, .string p0.S, .int .i64 p0.V.K, .int .i64 p0.V.N, .string p0.V.S] rfl) rfl) rfl <| ls (s_store (i := 0) (vs := [.int .i64 p0.K, .string p0.S, .int .i64 p0.V.K, .int .i64 p0.V.N, .string p0.V.S]) (C' := [.int .i64 p0.K, .string p0.S, .int .i64 p0.V.K, .int .i64 p0.V.N, .string p0.V.S]) (O' := [(b_2, .cells #[.int .i64 p0.K, .string p0.S, .int .i64 p0.V.K, .int .i64 p0.V.N, .string p0.V.S] 126 (0, 0)), (b_1, .cells #[.int .i64 p0.K, .string p0.S, .int .i64 p0.V.K, .int .i64 p0.V.N, .string p0.V.S] 126 (0, 0))]) Sz_126 rfl rfl rfl rfl rfl rfl ⟨rfl, rfl, rfl, rfl, rfl, trivial⟩ rfl rfl) rfl ?_
  refine WL.nil ?_
  refine WT.ret Tryz.func117 (resOk.one (rv_cell Tn_126 rfl (fun w1 hw => hw.rgO (i := 0) rfl 0 5 [.int .i64 p0.K, .string p0.S, .int .i64 p0.V.K, .int .i64 p0.V.N, .string p0.V.S] rfl) rfl)) (fun w1 hw => ?_)
  cases h
  exact post_of_St hw
 replace h := ite_f h c1
 refine WT.skip <| WT.seq <| WT.seq <| WT.region <| lq (q_move rfl) rfl <| lq (q_lenR Sl_137 rfl rfl ph1) rfl <| lq (q_eql rfl rfl) rfl <| WL.nil ?_
 refine WT.cond rfl (fun c2 => ?_) (fun c2 => ?_)
 ·replace h := ite_t h c2
  refine WT.seq <| WT.region <| lq (q_build (vs := [(0, .int .i64 1), (1, .int .i64 1)]) (C := #[.int .i64 1, .int .i64 1, .string (⟨#[]⟩ : ByteArray)]) Pl_121 Zr_121 rfl (fill_cons (cells := [.int .i64 0, .int .i64 0, .string ⟨#[]⟩]) (c := [.int .i64 1]) (C' := [.int .i64 1, .int .i64 0, .string ⟨#[]⟩]) rfl rfl rfl rfl rfl (fill_cons (cells := [.int .i64 1, .int .i64 0, .string ⟨#[]⟩]) (c := [.int .i64 1]) (C' := [.int .i64 1, .int .i64 1, .string ⟨#[]⟩]) rfl rfl rfl rfl rfl (fill_nil)))) rfl ?_
  obtain ⟨x2, hx2, h⟩ := bind_some h
  refine lp (p_call Fun_180 rfl (fun w1 hw => m_s_l6Val_ok hw.fro N (⟨1, 1, (⟨#[]⟩ : ByteArray)⟩ : TVal) hx2)) rfl <| ls (s_store (i := 0) (vs := [.int .i64 x2.K, .string x2.S, .int .i64 x2.V.K, .int .i64 x2.V.N, .string x2.V.S]) (C' := [.int .i64 x2.K, .string x2.S, .int .i64 x2.V.K, .int .i64 x2.V.N, .string x2.V.S]) (O' := [(b_2, .cells #[.int .i64 x2.K, .string x2.S, .int .i64 x2.V.K, .int .i64 x2.V.N, .string x2.V.S] 126 (0, 0)), (b_1, .cells #[.int .i64 p0.K, .string p0.S, .int .i64 p0.V.K, .int .i64 p0.V.N, .string p0.V.S] 126 (0, 0))]) Sz_126 rfl rfl rfl rfl rfl rfl ⟨rfl, rfl, rfl, rfl, rfl, trivial⟩ rfl rfl) rfl ?_
  refine WL.nil ?_
  refine WT.ret Tryz.func117 (resOk.one (rv_cell Tn_126 rfl (fun w1 hw => hw.rgO (i := 0) rfl 0 5 [.int .i64 x2.K, .string x2.S, .int .i64 x2.V.K, .int .i64 x2.V.N, .string x2.V.S] rfl) rfl)) (fun w1 hw => ?_)
  cases h
  exact post_of_St hw
 replace h := ite_f h c2
 refine WT.skip <| WT.seq <| WT.region <| lq (q_move rfl) rfl ?_
 obtain ⟨x3, hx3, h⟩ := bind_some h
 obtain ⟨cs1, F1, -, g1, hb1, hs1, r1⟩ := ph1.el (idx_some hx3).2.2
 obtain ⟨rfl, -⟩ := r1
 refine lq (q_indexAddr Sl_137 rfl rfl ph1 hx3) rfl <| lq (q_load1 T1_9 rfl (fun w1 hw => (g1.of_eq 0 1 rfl rfl : rg _ _ _ [.string x3]).rangeAt hw.fro)) rfl ?_
 obtain ⟨x4, hx4, h⟩ := bind_some h
 refine lp (p_call Fun_181 rfl (fun w1 hw => m_s_l6Var_ok hw.fro N x3 hx4)) rfl <| ls (s_store (i := 0) (vs := [.int .i64 x4.K, .string x4.S, .int .i64 x4.V.K, .int .i64 x4.V.N, .string x4.V.S]) (C' := [.int .i64 x4.K, .string x4.S, .int .i64 x4.V.K, .int .i64 x4.V.N, .string x4.V.S]) (O' := [(b_2, .cells #[.int .i64 x4.K, .string x4.S, .int .i64 x4.V.K, .int .i64 x4.V.N, .string x4.V.S] 126 (0, 0)), (b_1, .cells #[.int .i64 p0.K, .string p0.S, .int .i64 p0.V.K, .int .i64 p0.V.N, .string p0.V.S] 126 (0, 0))]) Sz_126 rfl rfl rfl rfl rfl rfl ⟨rfl, rfl, rfl, rfl, rfl, trivial⟩ rfl rfl) rfl ?_
 refine WL.nil ?_
 refine WT.ret Tryz.func117 (resOk.one (rv_cell Tn_126 rfl (fun w1 hw => hw.rgO (i := 0) rfl 0 5 [.int .i64 x4.K, .string x4.S, .int .i64 x4.V.K, .int .i64 x4.V.N, .string x4.V.S] rfl) rfl)) (fun w1 hw => ?_)
 cases h
 exact post_of_St hw
theorem m_s_l8Expr_ok {Φ : Hp} {w : World} (hΦ : In Φ w) (N : Nat) (p0 : Tl1Cur) {pv0_0 : Value} {pG0_0 : List Nat} {pb0 : Nat} (ph0_0 : RSl (RI .u8) 1 Φ pG0_0 pv0_0 p0.b) (pp0 : Φ pb0 = some (.cells #[pv0_0, .int .i64 p0.i, .int .i64 p0.h] 159 (0, 0))) (pd0_0 : Dj pG0_0 [[pb0]].flatten) (hB : [[pb0]].flatten.Nodup) (hlt : ∀ k ∈ [[pb0]].flatten, k < w.heap.size) {r : TExpr × Tl1Cur} (h : m_s_l8Expr N p0 = some r) :
  Calls Tryz.prog 182 [.pointer (some ⟨pb0, 0, none⟩)].toArray w (PostG Φ w [[pb0]].flatten (fun Φ' Fs v => v = .agg [.string r.1.Op, .int .i64 r.1.L.K, .string r.1.L.S, .int .i64 r.1.L.V.K, .int .i64 r.1.L.V.N, .string r.1.L.V.S, .int .i64 r.1.R.K, .string r.1.R.S, .int .i64 r.1.R.V.K, .int .i64 r.1.R.V.N, .string r.1.R.V.S].toArray ∧ Fs = [[pb0]] ∧ r.2.b = p0.b ∧ Φ' pb0 = some (.cells #[pv0_0, .int .i64 r.2.i, .int .i64 r.2.h] 159 (0, 0)))) := by
 refine enter Tryz.func182 rfl Tryz.ntmps182 rfl (St.start hΦ [[pb0]] hB hlt) ?_
 have pa0_0 : Old ⟨w, [[pb0]].flatten, Φ⟩ pG0_0 := Old.mk hΦ ph0_0.kn pd0_0
 revert pa0_0
 generalize hb0 : (⟨w, [[pb0]].flatten, Φ⟩ : Base) = w0
 intro pa0_0
 unfold m_s_l8Expr at h
 refine WT.seq <| WT.region ?_
 refine ln (n_alloc (C := #[.string (⟨#[]⟩ : ByteArray), .int .i64 0, .string (⟨#[]⟩ : ByteArray), .int .i64 0, .int .i64 0, .string (⟨#[]⟩ : ByteArray), .int .i64 0, .string (⟨#[]⟩ : ByteArray), .int .i64 0, .int .i64 0, .string (⟨#[]⟩ : ByteArray)]) Zr_175 rfl) rfl (fun b_1 => ?_)
 refine WL.nil <| WT.seq <| WT.region <| lq (q_move rfl) rfl ?_
 obtain ⟨x1, hx1, h⟩ := bind_some h
 refine lc (k_call (js := [0]) (R := []) Fun_178 rfl rfl (fun w1 hw ap hl => m_s_l7Arg_ok hw.fro N p0 ph0_0 pp0 (ap.o pa0_0) ap.nd hl hx1)) rfl (fun v1 Φ_1 F1 q1 => ?_)
 obtain ⟨ap1, fr1, rfl, rfl, e1, h1⟩ := q1
 replace ph0_0 := ph0_0.frame RI.lasts fr1 (ap1.o pa0_0)
 refine lq (q_build (vs := [(1, .agg [.int .i64 x1.1.K, .string x1.1.S, .int .i64 x1.1.V.K, .int .i64 x1.1.V.N, .string x1.1.V.S].toArray)]) (C := #[.string (⟨#[]⟩ : ByteArray), .int .i64 x1.1.K, .string x1.1.S, .int .i64 x1.1.V.K, .int .i64 x1.1.V.N, .string x1.1.V.S, .int .i64 0, .string (⟨#[]⟩ : ByteArray), .int .i64 0, .int .i64 0, .string (⟨#[]⟩ : ByteArray)]) Pl_175 Zr_175 rfl (fill_cons (cells := [.string ⟨#[]⟩, .int .i64 0, .string ⟨#[]⟩, .int .i64 0, .int .i64 0, .string ⟨#[]⟩, .int .i64 0, .string ⟨#[]⟩, .int .i64 0, .int .i64 0, .string ⟨#[]⟩]) (c := [.int .i64 x1.1.K, .string x1.1.S, .int .i64 x1.1.V.K, .int .i64 x1.1.V.N, .string x1.1.V.S]) (C' := [.string ⟨#[]⟩, .int .i64 x1.1.K, .string x1.1.S, .int .i64 x1.1.V.K, .int .i64 x1.1.V.N, .string x1.1.V.S, .int .i64 0, .string ⟨#[]⟩, .int .i64 0, .int .i64 0, .string ⟨#[]⟩]) rfl rfl rfl rfl rfl (fill_nil))) rfl ?_
 refine ln (n_alloc (C := #[.string (⟨#[]⟩ : ByteArray), .int .i64 0, .string (⟨#[]⟩ : ByteArray), .int .i64 0, .int .i64 0, .string (⟨#[]⟩ : ByteArray), .int .i64 0, .string (⟨#[]⟩ : ByteArray), .int .i64 0, .int .i64 0, .string (⟨#[]⟩ : ByteArray)]) Zr_175 rfl) rfl (fun b_2 => ?_)
 refine ls (s_store (i := 0) (vs := [.string (⟨#[]⟩ : ByteArray), .int .i64 x1.1.K, .string x1.1.S, .int .i64 x1.1.V.K, .int .i64 x1.1.V.N, .string x1.1.V.S, .int .i64 0, .string (⟨#[]⟩ : ByteArray), .int .i64 0, .int .i64 0, .string (⟨#[]⟩ : ByteArray)]) (C' := [.string (⟨#[]⟩ : ByteArray), .int .i64 x1.1.K, .string x1.1.S, .int .i64 x1.1.V.K, .int .i64 x1.1.V.N, .string x1.1.V.S, .int .i64 0, .string (⟨#[]⟩ : ByteArray), .int .i64 0, .int .i64 0, .string (⟨#[]⟩ : ByteArray)]) (O' := [(b_2, .cells #[.string (⟨#[]⟩ : ByteArray), .int .i64 x1.1.K, .string x1.1.S, .int .i64 x1.1.V.K, .int .i64 x1.1.V.N, .string x1.1.V.S, .int .i64 0, .string (⟨#[]⟩ : ByteArray), .int .i64 0, .int .i64 0, .string (⟨#[]⟩ : ByteArray)] 175 (0, 0)), (b_1, .cells #[.string (⟨#[]⟩ : ByteArray), .int .i64 0, .string (⟨#[]⟩ : ByteArray), .int .i64 0, .int .i64 0, .string (⟨#[]⟩ : ByteArray), .int .i64 0, .string (⟨#[]⟩ : ByteArray), .int .i64 0, .int .i64 0, .string (⟨#[]⟩ : ByteArray)] 175 (0, 0))]) Sz_175 rfl rfl rfl rfl rfl rfl ⟨rfl, rfl, rfl, rfl, rfl, rfl, rfl, rfl, rfl, rfl, rfl, trivial⟩ rfl rfl) rfl ?_
 refine WL.nil <| WT.seq <| WT.seq <| WT.region <| lq (q_move rfl) rfl ?_
 obtain ⟨x2, hx2, h⟩ := bind_some h
 refine lc (k_call (js := [0]) (R := []) Fun_47 rfl rfl (fun w1 hw ap hl => m_s_l1Once_ok hw.fro N (⟨p0.b, x1.2.i, x1.2.h⟩ : Tl1Cur) 4 ph0_0 h1 (ap.o pa0_0) ap.nd hl hx2)) rfl (fun v2 Φ_2 F2 q2 => ?_)
 obtain ⟨ap2, fr2, rfl, rfl, e2, h2⟩ := q2
 replace ph0_0 := ph0_0.frame RI.lasts fr2 (ap2.o pa0_0)
 refine WL.nil ?_
 refine cut (σ := Hp × Int × Int × ByteArray × Int × ByteArray × Int × Int × ByteArray) (fun s => [(2, .pointer (some ⟨b_1, 0, none⟩)), (3, .pointer (some ⟨b_2, 0, none⟩))]) (fun s => St w0 s.1 [(b_2, .cells #[.string s.2.2.2.1, .int .i64 x1.1.K, .string x1.1.S, .int .i64 x1.1.V.K, .int .i64 x1.1.V.N, .string x1.1.V.S, .int .i64 s.2.2.2.2.1, .string s.2.2.2.2.2.1, .int .i64 s.2.2.2.2.2.2.1, .int .i64 s.2.2.2.2.2.2.2.1, .string s.2.2.2.2.2.2.2.2] 175 (0, 0)), (b_1, .cells #[.string (⟨#[]⟩ : ByteArray), .int .i64 0, .string (⟨#[]⟩ : ByteArray), .int .i64 0, .int .i64 0, .string (⟨#[]⟩ : ByteArray), .int .i64 0, .string (⟨#[]⟩ : ByteArray), .int .i64 0, .int .i64 0, .string (⟨#[]⟩ : ByteArray)] 175 (0, 0))] [[pb0]]) (fun s => m_s_l8Expr_j1 N p0 x1 s.2.1 s.2.2.1 s.2.2.2.1 s.2.2.2.2.1 s.2.2.2.2.2.1 s.2.2.2.2.2.2.1 s.2.2.2.2.2.2.2.1 s.2.2.2.2.2.2.2.2 = some r ∧ (s.1 pb0 = some (.cells #[pv0_0, .int .i64 s.2.1, .int .i64 s.2.2.1] 159 (0, 0))) ∧ (RSl (RI .u8) 1 s.1 pG0_0 pv0_0 p0.b)) (fun s hm => ?_) (fun K => ?_)
 ·clear h
  obtain ⟨Φ_3, s1, s2, s3, s4, s5, s6, s7, s8⟩ := s
  obtain ⟨h, k1, ph0_0⟩ := hm
  replace h : m_s_l8Expr_j1 N p0 x1 s1 s2 s3 s4 s5 s6 s7 s8 = some r := h
  replace k1 : Φ_3 pb0 = some (.cells #[pv0_0, .int .i64 s1, .int .i64 s2] 159 (0, 0)) := k1
  replace ph0_0 : RSl (RI .u8) 1 Φ_3 pG0_0 pv0_0 p0.b := ph0_0
  show WT _ _ [(2, .pointer (some ⟨b_1, 0, none⟩)), (3, .pointer (some ⟨b_2, 0, none⟩))] (St w0 Φ_3 [(b_2, .cells #[.string s3, .int .i64 x1.1.K, .string x1.1.S, .int .i64 x1.1.V.K, .int .i64 x1.1.V.N, .string x1.1.V.S, .int .i64 s4, .string s5, .int .i64 s6, .int .i64 s7, .string s8] 175 (0, 0)), (b_1, .cells #[.string (⟨#[]⟩ : ByteArray), .int .i64 0, .string (⟨#[]⟩ : ByteArray), .int .i64 0, .int .i64 0, .string (⟨#[]⟩ : ByteArray), .int .i64 0, .string (⟨#[]⟩ : ByteArray), .int .i64 0, .int .i64 0, .string (⟨#[]⟩ : ByteArray)] 175 (0, 0))] [[pb0]])
  unfold m_s_l8Expr_j1 at h
  refine WT.seq <| WT.region <| lq (q_loadN Tn_175 rfl (fun w1 hw => hw.rgO (i := 0) rfl 0 11 [.string s3, .int .i64 x1.1.K, .string x1.1.S, .int .i64 x1.1.V.K, .int .i64 x1.1.V.N, .string x1.1.V.S, .int .i64 s4, .string s5, .int .i64 s6, .int .i64 s7, .string s8] rfl) rfl) rfl <| ls (s_store (i := 1) (vs := [.string s3, .int .i64 x1.1.K, .string x1.1.S, .int .i64 x1.1.V.K, .int .i64 x1.1.V.N, .string x1.1.V.S, .int .i64 s4, .string s5, .int .i64 s6, .int .i64 s7, .string s8]) (C' := [.string s3, .int .i64 x1.1.K, .string x1.1.S, .int .i64 x1.1.V.K, .int .i64 x1.1.V.N, .string x1.1.V.S, .int .i64 s4, .string s5, .int .i64 s6, .int .i64 s7, .string s8]) (O' := [(b_2, .cells #[.string s3, .int .i64 x1.1.K, .string x1.1.S, .int .i64 x1.1.V.K, .int .i64 x1.1.V.N, .string x1.1.V.S, .int .i64 s4, .string s5, .int .i64 s6, .int .i64 s7, .string s8] 175 (0, 0)), (b_1, .cells #[.string s3, .int .i64 x1.1.K, .string x1.1.S, .int .i64 x1.1.V.K, .int .i64 x1.1.V.N, .string x1.1.V.S, .int .i64 s4, .string s5, .int .i64 s6, .int .i64 s7, .string s8] 175 (0, 0))]) Sz_175 rfl rfl rfl rfl rfl rfl ⟨rfl, rfl, rfl, rfl, rfl, rfl, rfl, rfl, rfl, rfl, rfl, trivial⟩ rfl rfl) rfl ?_
  refine WL.nil ?_
  refine WT.ret Tryz.func182 (resOk.one (rv_cell Tn_175 rfl (fun w1 hw => hw.rgO (i := 1) rfl 0 11 [.string s3, .int .i64 x1.1.K, .string x1.1.S, .int .i64 x1.1.V.K, .int .i64 x1.1.V.N, .string x1.1.V.S, .int .i64 s4, .string s5, .int .i64 s6, .int .i64 s7, .string s8] rfl) rfl)) (fun w1 hw => ?_)
  subst hb0
  cases h
  refine postG_of_St (js := [0]) hw rfl ⟨rfl, rfl, rfl, k1⟩
 refine WT.cond rfl (fun c1 => ?_) (fun c1 => ?_)
 ·replace h := ite_t h c1
  refine WT.seq <| WT.region <| lq (q_move rfl) rfl ?_
  have rc1 : RC RS 1 Φ_2 ([[], []] : List (List Nat)) [.string (⟨#[43]⟩ : ByteArray), .string (⟨#[45]⟩ : ByteArray)] ([(⟨#[43]⟩ : ByteArray), (⟨#[45]⟩ : ByteArray)] : List ByteArray) := RC.cons (c := [.string (⟨#[43]⟩ : ByteArray)]) (cells := [.string (⟨#[45]⟩ : ByteArray)]) ⟨rfl, rfl⟩ rfl (RC.cons (c := [.string (⟨#[45]⟩ : ByteArray)]) (cells := []) ⟨rfl, rfl⟩ rfl (RC.nil _ _ _))
  refine le' (e_lit (vs := [(0, .string (⟨#[43]⟩ : ByteArray)), (1, .string (⟨#[45]⟩ : ByteArray))]) (C := #[.string (⟨#[43]⟩ : ByteArray), .string (⟨#[45]⟩ : ByteArray)]) RS.lasts Sl_137 Zr_9 rfl rfl rfl rfl (fill_made MC_9_2 (fill_cons (cells := [.string ⟨#[]⟩, .string ⟨#[]⟩]) (c := [.string (⟨#[43]⟩ : ByteArray)]) (C' := [.string (⟨#[43]⟩ : ByteArray), .string ⟨#[]⟩]) rfl rfl rfl rfl rfl (fill_cons (cells := [.string (⟨#[43]⟩ : ByteArray), .string ⟨#[]⟩]) (c := [.string (⟨#[45]⟩ : ByteArray)]) (C' := [.string (⟨#[43]⟩ : ByteArray), .string (⟨#[45]⟩ : ByteArray)]) rfl rfl rfl rfl rfl (fill_nil)))) rfl rc1 rfl (by simpa using Kw.nil)) rfl (fun v3 Φ_4 D1 q3 => ?_)
  obtain ⟨fr3, h3⟩ := q3
  replace h3 : OSl RS 9 1 Φ_4 [] v3 ([(⟨#[43]⟩ : ByteArray), (⟨#[45]⟩ : ByteArray)] : List ByteArray) := by simpa using h3
  replace ph0_0 := ph0_0.frame RI.lasts fr3 (Dj.empty _)
  replace h2 := fr3 _ _ (by simp) h2
  obtain ⟨x3, hx3, h⟩ := bind_some h
  refine lc (k_call (js := [1]) (R := [ob v3]) Fun_101 rfl rfl (fun w1 hw ap hl => m_s_l1Str_ok hw.fro N (⟨p0.b, x2.2.i, x2.2.h⟩ : Tl1Cur) ([(⟨#[43]⟩ : ByteArray), (⟨#[45]⟩ : ByteArray)] : List ByteArray) ph0_0 h2 h3.rsl (ap.o pa0_0) (Dj.app (ap.r (i := 0) rfl) (Dj.nil _)) ap.nd hl hx3)) rfl (fun v4 Φ_5 F3 q4 => ?_)
  obtain ⟨ap3, fr4, rfl, rfl, e3, h4⟩ := q4
  replace ph0_0 := ph0_0.frame RI.lasts fr4 (ap3.o pa0_0)
  refine lq (q_fieldAddr Fld_175_0 rfl) rfl <| ls (s_store (i := 0) (vs := [.string x3.1]) (C' := [.string x3.1, .int .i64 x1.1.K, .string x1.1.S, .int .i64 x1.1.V.K, .int .i64 x1.1.V.N, .string x1.1.V.S, .int .i64 0, .string (⟨#[]⟩ : ByteArray), .int .i64 0, .int .i64 0, .string (⟨#[]⟩ : ByteArray)]) (O' := [(b_2, .cells #[.string x3.1, .int .i64 x1.1.K, .string x1.1.S, .int .i64 x1.1.V.K, .int .i64 x1.1.V.N, .string x1.1.V.S, .int .i64 0, .string (⟨#[]⟩ : ByteArray), .int .i64 0, .int .i64 0, .string (⟨#[]⟩ : ByteArray)] 175 (0, 0)), (b_1, .cells #[.string (⟨#[]⟩ : ByteArray), .int .i64 0, .string (⟨#[]⟩ : ByteArray), .int .i64 0, .int .i64 0, .string (⟨#[]⟩ : ByteArray), .int .i64 0, .string (⟨#[]⟩ : ByteArray), .int .i64 0, .int .i64 0, .string (⟨#[]⟩ : ByteArray)] 175 (0, 0))]) Sz_9 rfl rfl rfl rfl rfl rfl ⟨rfl, trivial⟩ rfl rfl) rfl ?_
  refine WL.nil <| WT.region <| lq (q_move rfl) rfl ?_
  obtain ⟨x4, hx4, h⟩ := bind_some h
  refine lc (k_call (js := [0]) (R := [ob v3]) Fun_178 rfl rfl (fun w1 hw ap hl => m_s_l7Arg_ok hw.fro N (⟨p0.b, x3.2.i, x3.2.h⟩ : Tl1Cur) ph0_0 h4 (ap.o pa0_0) ap.nd hl hx4)) rfl (fun v5 Φ_6 F4 q5 => ?_)
  obtain ⟨ap4, fr5, rfl, rfl, e4, h5⟩ := q5
  replace ph0_0 := ph0_0.frame RI.lasts fr5 (ap4.o pa0_0)
  refine lq (q_fieldAddr Fld_175_2 rfl) rfl <| ls (s_store (i := 0) (vs := [.int .i64 x4.1.K, .string x4.1.S, .int .i64 x4.1.V.K, .int .i64 x4.1.V.N, .string x4.1.V.S]) (C' := [.string x3.1, .int .i64 x1.1.K, .string x1.1.S, .int .i64 x1.1.V.K, .int .i64 x1.1.V.N, .string x1.1.V.S, .int .i64 x4.1.K, .string x4.1.S, .int .i64 x4.1.V.K, .int .i64 x4.1.V.N, .string x4.1.V.S]) (O' := [(b_2, .cells #[.string x3.1, .int .i64 x1.1.K, .string x1.1.S, .int .i64 x1.1.V.K, .int .i64 x1.1.V.N, .string x1.1.V.S, .int .i64 x4.1.K, .string x4.1.S, .int .i64 x4.1.V.K, .int .i64 x4.1.V.N, .string x4.1.V.S] 175 (0, 0)), (b_1, .cells #[.string (⟨#[]⟩ : ByteArray), .int .i64 0, .string (⟨#[]⟩ : ByteArray), .int .i64 0, .int .i64 0, .string (⟨#[]⟩ : ByteArray), .int .i64 0, .string (⟨#[]⟩ : ByteArray), .int .i64 0, .int .i64 0, .string (⟨#[]⟩ : ByteArray)] 175 (0, 0))]) Sz_126 rfl rfl rfl rfl rfl rfl ⟨rfl, rfl, rfl, rfl, rfl, trivial⟩ rfl rfl) rfl ?_
  refine WL.nil <| WT.mono (l' := [(2, .pointer (some ⟨b_1, 0, none⟩)), (3, .pointer (some ⟨b_2, 0, none⟩))]) (S' := St w0 Φ_6 [(b_2, .cells #[.string x3.1, .int .i64 x1.1.K, .string x1.1.S, .int .i64 x1.1.V.K, .int .i64 x1.1.V.N, .string x1.1.V.S, .int .i64 x4.1.K, .string x4.1.S, .int .i64 x4.1.V.K, .int .i64 x4.1.V.N, .string x4.1.V.S] 175 (0, 0)), (b_1, .cells #[.string (⟨#[]⟩ : ByteArray), .int .i64 0, .string (⟨#[]⟩ : ByteArray), .int .i64 0, .int .i64 0, .string (⟨#[]⟩ : ByteArray), .int .i64 0, .string (⟨#[]⟩ : ByteArray), .int .i64 0, .int .i64 0, .string (⟨#[]⟩ : ByteArray)] 175 (0, 0))] [[pb0]]) ⟨rfl, rfl, trivial⟩ (fun w1 hw => (hw.sel (js := [0]) rfl).selO (js := [0, 0]) rfl) ?_
  exact K (Φ_6, x4.2.i, x4.2.h, x3.1, x4.1.K, x4.1.S, x4.1.V.K, x4.1.V.N, x4.1.V.S) ⟨h, h5, ph0_0⟩
 replace h := ite_f h c1
 refine WT.skip <| WT.mono (l' := [(2, .pointer (some ⟨b_1, 0, none⟩)), (3, .pointer (some ⟨b_2, 0, none⟩))]) (S' := St w0 Φ_2 [(b_2, .cells #[.string (⟨#[]⟩ : ByteArray), .int .i64 x1.1.K, .string x1.1.S, .int .i64 x1.1.V.K, .int .i64 x1.1.V.N, .string x1.1.V.S, .int .i64 0, .string (⟨#[]⟩ : ByteArray), .int .i64 0, .int .i64 0, .string (⟨#[]⟩ : ByteArray)] 175 (0, 0)), (b_1, .cells #[.string (⟨#[]⟩ : ByteArray), .int .i64 0, .string (⟨#[]⟩ : ByteArray), .int .i64 0, .int .i64 0, .string (⟨#[]⟩ : ByteArray), .int .i64 0, .string (⟨#[]⟩ : ByteArray), .int .i64 0, .int .i64 0, .string (⟨#[]⟩ : ByteArray)] 175 (0, 0))] [[pb0]]) ⟨rfl, rfl, trivial⟩ (fun w1 hw => (hw.sel (js := [0]) rfl).selO (js := [0, 0]) rfl) ?_
 exact K (Φ_2, x2.2.i, x2.2.h, (⟨#[]⟩ : ByteArray), 0, (⟨#[]⟩ : ByteArray), 0, 0, (⟨#[]⟩ : ByteArray)) ⟨h, h2, ph0_0⟩
theorem m_s_l8Draw_ok {Φ : Hp} {w : World} (hΦ : In Φ w) (N : Nat) (p0 : Tl1Cur) (p1 : Int) {pv0_0 : Value} {pG0_0 : List Nat} {pb0 : Nat} (ph0_0 : RSl (RI .u8) 1 Φ pG0_0 pv0_0 p0.b) (pp0 : Φ pb0 = some (.cells #[pv0_0, .int .i64 p0.i, .int .i64 p0.h] 159 (0, 0))) (pd0_0 : Dj pG0_0 [[pb0]].flatten) (hB : [[pb0]].flatten.Nodup) (hlt : ∀ k ∈ [[pb0]].flatten, k < w.heap.size) {r : TAct × Tl1Cur} (h : m_s_l8Draw N p0 p1 = some r) :
  Calls Tryz.prog 118 [.pointer (some ⟨pb0, 0, none⟩), .int .i64 p1].toArray w (PostG Φ w [[pb0]].flatten (fun Φ' Fs v => ∃ (sr_0_0 : Value), v = .agg [.int .i64 r.1.Kind, .string r.1.Name, sr_0_0, .int .i64 r.1.N, .string r.1.Undo].toArray ∧ Fs = [ob sr_0_0, [pb0]] ∧ OSl RTExpr 175 11 Φ' [] sr_0_0 r.1.Args ∧ r.2.b = p0.b ∧ Φ' pb0 = some (.cells #[pv0_0, .int .i64 r.2.i, .int .i64 r.2.h] 159 (0, 0)))) := by
 refine enter Tryz.func118 rfl Tryz.ntmps118 rfl (St.start hΦ [[pb0]] hB hlt) ?_
 have pa0_0 : Old ⟨w, [[pb0]].flatten, Φ⟩ pG0_0 := Old.mk hΦ ph0_0.kn pd0_0
 revert pa0_0
 generalize hb0 : (⟨w, [[pb0]].flatten, Φ⟩ : Base) = w0
 intro pa0_0
 unfold m_s_l8Draw at h
 refine WT.seq <| WT.region ?_
 refine ln (n_alloc (C := #[.int .i64 0, .string (⟨#[]⟩ : ByteArray), .slice none 0 0, .int .i64 0, .string (⟨#[]⟩ : ByteArray)]) Zr_135 rfl) rfl (fun b_1 => ?_)
 refine WL.nil <| WT.seq <| WT.region <| lq (q_move rfl) rfl ?_
 have rc1 : RC (RI .i64) 1 Φ ([[], [], [], [], [], [], [], []] : List (List Nat)) [.int .i64 1, .int .i64 1, .int .i64 2, .int .i64 3, .int .i64 3, .int .i64 4, .int .i64 5, .int .i64 6] ([1, 1, 2, 3, 3, 4, 5, 6] : List Int) := RC.cons (c := [.int .i64 1]) (cells := [.int .i64 1, .int .i64 2, .int .i64 3, .int .i64 3, .int .i64 4, .int .i64 5, .int .i64 6]) ⟨rfl, rfl⟩ rfl (RC.cons (c := [.int .i64 1]) (cells := [.int .i64 2, .int .i64 3, .int .i64 3, .int .i64 4, .int .i64 5, .int .i64 6]) ⟨rfl, rfl⟩ rfl (RC.cons (c := [.int .i64 2]) (cells := [.int .i64 3, .int .i64 3, .int .i64 4, .int .i64 5, .int .i64 6]) ⟨rfl, rfl⟩ rfl (RC.cons (c := [.int .i64 3]) (cells := [.int .i64 3, .int .i64 4, .int .i64 5, .int .i64 6]) ⟨rfl, rfl⟩ rfl (RC.cons (c := [.int .i64 3]) (cells := [.int .i64 4, .int .i64 5, .int .i64 6]) ⟨rfl, rfl⟩ rfl (RC.cons (c := [.int .i64 4]) (cells := [.int .i64 5, .int .i64 6]) ⟨rfl, rfl⟩ rfl (RC.cons (c := [.int .i64 5]) (cells := [.int .i64 6]) ⟨rfl, rfl⟩ rfl (RC.cons (c := [.int .i64 6]) (cells := []) ⟨rfl, rfl⟩ rfl (RC.nil _ _ _))))))))
 refine le' (e_lit (vs := [(0, .int .i64 1), (1, .int .i64 1), (2, .int .i64 2), (3, .int .i64 3), (4, .int .i64 3), (5, .int .i64 4), (6, .int .i64 5), (7, .int .i64 6)]) (C := #[.int .i64 1, .int .i64 1, .int .i64 2, .int .i64 3, .int .i64 3, .int .i64 4, .int .i64 5, .int .i64 6]) RI.lasts Sl_41 Zr_3 rfl rfl rfl rfl (fill_made MC_3_8 (fill_cons (cells := [.int .i64 0, .int .i64 0, .int .i64 0, .int .i64 0, .int .i64 0, .int .i64 0, .int .i64 0, .int .i64 0]) (c := [.int .i64 1]) (C' := [.int .i64 1, .int .i64 0, .int .i64 0, .int .i64 0, .int .i64 0, .int .i64 0, .int .i64 0, .int .i64 0]) rfl rfl rfl rfl rfl (fill_cons (cells := [.int .i64 1, .int .i64 0, .int .i64 0, .int .i64 0, .int .i64 0, .int .i64 0, .int .i64 0, .int .i64 0]) (c := [.int .i64 1]) (C' := [.int .i64 1, .int .i64 1, .int .i64 0, .int .i64 0, .int .i64 0, .int .i64 0, .int .i64 0, .int .i64 0]) rfl rfl rfl rfl rfl (fill_cons (cells := [.int .i64 1, .int .i64 1, .int .i64 0, .int .i64 0, .int .i64 0, .int .i64 0, .int .i64 0, .int .i64 0]) (c := [.int .i64 2]) (C' := [.int .i64 1, .int .i64 1, .int .i64 2, .int .i64 0, .int .i64 0, .int .i64 0, .int .i64 0, .int .i64 0]) rfl rfl rfl rfl rfl (fill_cons (cells := [.int .i64 1, .int .i64 1, .int .i64 2, .int .i64 0, .int .i64 0, .int .i64 0, .int .i64 0, .int .i64 0]) (c := [.int .i64 3]) (C' := [.int .i64 1, .int .i64 1, .int .i64 2, .int .i64 3, .int .i64 0, .int .i64 0, .int .i64 0, .int .i64 0]) rfl rfl rfl rfl rfl (fill_cons (cells := [.int .i64 1, .int .i64 1, .int .i64 2, .int .i64 3, .int .i64 0, .int .i64 0, .int .i64 0, .int .i64 0]) (c := [.int .i64 3]) (C' := [.int .i64 1, .int .i64 1, .int .i64 2, .int .i64 3, .int .i64 3, .int .i64 0, .int .i64 0, .int .i64 0]) rfl rfl rfl rfl rfl (fill_cons (cells := [.int .i64 1, .int .i64 1, .int .i64 2, .int .i64 3, .int .i64 3, .int .i64 0, .int .i64 0, .int .i64 0]) (c := [.int .i64 4]) (C' := [.int .i64 1, .int .i64 1, .int .i64 2, .int .i64 3, .int .i64 3, .int .i64 4, .int .i64 0, .int .i64 0]) rfl rfl rfl rfl rfl (fill_cons (cells := [.int .i64 1, .int .i64 1, .int .i64 2, .int .i64 3, .int .i64 3, .int .i64 4, .int .i64 0, .int .i64 0]) (c := [.int .i64 5]) (C' := [.int .i64 1, .int .i64 1, .int .i64 2, .int .i64 3, .int .i64 3, .int .i64 4, .int .i64 5, .int .i64 0]) rfl rfl rfl rfl rfl (fill_cons (cells := [.int .i64 1, .int .i64 1, .int .i64 2, .int .i64 3, .int .i64 3, .int .i64 4, .int .i64 5, .int .i64 0]) (c := [.int .i64 6]) (C' := [.int .i64 1, .int .i64 1, .int .i64 2, .int .i64 3, .int .i64 3, .int .i64 4, .int .i64 5, .int .i64 6]) rfl rfl rfl rfl rfl (fill_nil)))))))))) rfl rc1 rfl (by simpa using Kw.nil)) rfl (fun v1 Φ_1 D1 q1 => ?_)
 obtain ⟨fr1, h1⟩ := q1
 replace h1 : OSl (RI .i64) 3 1 Φ_1 [] v1 ([1, 1, 2, 3, 3, 4, 5, 6] : List Int) := by simpa using h1
 replace ph0_0 := ph0_0.frame RI.lasts fr1 (Dj.empty _)
 replace pp0 := fr1 _ _ (by simp) pp0
 obtain ⟨x1, hx1, h⟩ := bind_some h
 refine lc (k_call (js := [1]) (R := [ob v1]) Fun_113 rfl rfl (fun w1 hw ap hl => m_s_l1Int_ok hw.fro N p0 ([1, 1, 2, 3, 3, 4, 5, 6] : List Int) ph0_0 pp0 h1.rsl (ap.o pa0_0) (Dj.app (ap.r (i := 0) rfl) (Dj.nil _)) ap.nd hl hx1)) rfl (fun v2 Φ_2 F1 q2 => ?_)
 obtain ⟨ap1, fr2, rfl, rfl, e1, h2⟩ := q2
 replace ph0_0 := ph0_0.frame RI.lasts fr2 (ap1.o pa0_0)
 refine lq (q_build (vs := [(0, .int .i64 x1.1)]) (C := #[.int .i64 x1.1, .string (⟨#[]⟩ : ByteArray), .slice none 0 0, .int .i64 0, .string (⟨#[]⟩ : ByteArray)]) Pl_135 Zr_135 rfl (fill_cons (cells := [.int .i64 0, .string ⟨#[]⟩, .slice none 0 0, .int .i64 0, .string ⟨#[]⟩]) (c := [.int .i64 x1.1]) (C' := [.int .i64 x1.1, .string ⟨#[]⟩, .slice none 0 0, .int .i64 0, .string ⟨#[]⟩]) rfl rfl rfl rfl rfl (fill_nil))) rfl ?_
 refine ln (n_alloc (C := #[.int .i64 0, .string (⟨#[]⟩ : ByteArray), .slice none 0 0, .int .i64 0, .string (⟨#[]⟩ : ByteArray)]) Zr_135 rfl) rfl (fun b_2 => ?_)
 refine ls (s_store (i := 0) (vs := [.int .i64 x1.1, .string (⟨#[]⟩ : ByteArray), .slice none 0 0, .int .i64 0, .string (⟨#[]⟩ : ByteArray)]) (C' := [.int .i64 x1.1, .string (⟨#[]⟩ : ByteArray), .slice none 0 0, .int .i64 0, .string (⟨#[]⟩ : ByteArray)]) (O' := [(b_2, .cells #[.int .i64 x1.1, .string (⟨#[]⟩ : ByteArray), .slice none 0 0, .int .i64 0, .string (⟨#[]⟩ : ByteArray)] 135 (0, 0)), (b_1, .cells #[.int .i64 0, .string (⟨#[]⟩ : ByteArray), .slice none 0 0, .int .i64 0, .string (⟨#[]⟩ : ByteArray)] 135 (0, 0))]) Sz_135 rfl rfl rfl rfl rfl rfl ⟨rfl, rfl, rfl, rfl, rfl, trivial⟩ rfl rfl) rfl ?_
 refine WL.nil <| WT.seq <| WT.seq <| WT.region <| lq (q_fieldAddr Fld_135_0 rfl) rfl <| lq (q_load1 T1_3 rfl (fun w1 hw => hw.rgO (i := 0) rfl 0 1 [.int .i64 x1.1] rfl)) rfl <| WL.nil <| WT.block <| WT.seq <| WT.region <| lq (q_eql rfl rfl) rfl <| lq (q_assign rfl) rfl <| WL.nil ?_
 refine WT.cond rfl (fun c1 => ?_) (fun c1 => ?_)
 ·replace h := ite_t h c1
  refine WT.seq <| WT.region <| lq (q_move rfl) rfl <| lq (q_move rfl) rfl ?_
  obtain ⟨x2, hx2, h⟩ := bind_some h
  refine lc (k_call (js := [0]) (R := [ob v1]) Fun_59 rfl rfl (fun w1 hw ap hl => m_s_l1Below_ok hw.fro N (⟨p0.b, x1.2.i, x1.2.h⟩ : Tl1Cur) p1 ph0_0 h2 (ap.o pa0_0) ap.nd hl hx2)) rfl (fun v3 Φ_3 F2 q3 => ?_)
  obtain ⟨ap2, fr3, rfl, rfl, e2, h3⟩ := q3
  replace ph0_0 := ph0_0.frame RI.lasts fr3 (ap2.o pa0_0)
  refine lq (q_fieldAddr Fld_135_3 rfl) rfl <| ls (s_store (i := 0) (vs := [.int .i64 x2.1]) (C' := [.int .i64 x1.1, .string (⟨#[]⟩ : ByteArray), .slice none 0 0, .int .i64 x2.1, .string (⟨#[]⟩ : ByteArray)]) (O' := [(b_2, .cells #[.int .i64 x1.1, .string (⟨#[]⟩ : ByteArray), .slice none 0 0, .int .i64 x2.1, .string (⟨#[]⟩ : ByteArray)] 135 (0, 0)), (b_1, .cells #[.int .i64 0, .string (⟨#[]⟩ : ByteArray), .slice none 0 0, .int .i64 0, .string (⟨#[]⟩ : ByteArray)] 135 (0, 0))]) Sz_3 rfl rfl rfl rfl rfl rfl ⟨rfl, trivial⟩ rfl rfl) rfl ?_
  refine WL.nil <| WT.seq <| WT.region <| lq (q_loadN Tn_135 rfl (fun w1 hw => hw.rgO (i := 0) rfl 0 5 [.int .i64 x1.1, .string (⟨#[]⟩ : ByteArray), .slice none 0 0, .int .i64 x2.1, .string (⟨#[]⟩ : ByteArray)] rfl) rfl) rfl <| ls (s_store (i := 1) (vs := [.int .i64 x1.1, .string (⟨#[]⟩ : ByteArray), .slice none 0 0, .int .i64 x2.1, .string (⟨#[]⟩ : ByteArray)]) (C' := [.int .i64 x1.1, .string (⟨#[]⟩ : ByteArray), .slice none 0 0, .int .i64 x2.1, .string (⟨#[]⟩ : ByteArray)]) (O' := [(b_2, .cells #[.int .i64 x1.1, .string (⟨#[]⟩ : ByteArray), .slice none 0 0, .int .i64 x2.1, .string (⟨#[]⟩ : ByteArray)] 135 (0, 0)), (b_1, .cells #[.int .i64 x1.1, .string (⟨#[]⟩ : ByteArray), .slice none 0 0, .int .i64 x2.1, .string (⟨#[]⟩ : ByteArray)] 135 (0, 0))]) Sz_135 rfl rfl rfl rfl rfl rfl ⟨rfl, rfl, rfl, rfl, rfl, trivial⟩ rfl rfl) rfl ?_
  refine WL.nil ?_
  refine WT.ret Tryz.func118 (resOk.one (rv_cell Tn_135 rfl (fun w1 hw => hw.rgO (i := 1) rfl 0 5 [.int .i64 x1.1, .string (⟨#[]⟩ : ByteArray), .slice none 0 0, .int .i64 x2.1, .string (⟨#[]⟩ : ByteArray)] rfl) rfl)) (fun w1 hw => ?_)
  subst hb0
  cases h
  replace hw := hw.addNil
  refine postG_of_St (js := [0, 0]) hw rfl ⟨.slice none 0 0, rfl, rfl, OSl.nil _ _ _ _, rfl, h3⟩
 replace h := ite_f h c1
 refine WT.seq <| WT.seq <| WT.region <| lq (q_eql rfl rfl) rfl <| lq (q_assign rfl) rfl <| WL.nil ?_
 refine cut (σ := Bool) (fun s => [(0, .pointer (some ⟨pb0, 0, none⟩)), (4, .pointer (some ⟨b_1, 0, none⟩)), (5, .pointer (some ⟨b_2, 0, none⟩)), (21, .bool s)]) (fun s => St w0 Φ_2 [(b_2, .cells #[.int .i64 x1.1, .string (⟨#[]⟩ : ByteArray), .slice none 0 0, .int .i64 0, .string (⟨#[]⟩ : ByteArray)] 135 (0, 0)), (b_1, .cells #[.int .i64 0, .string (⟨#[]⟩ : ByteArray), .slice none 0 0, .int .i64 0, .string (⟨#[]⟩ : ByteArray)] 135 (0, 0))] [[pb0]]) (fun s => m_s_l8Draw_j1 N p0 x1 s = some r) (fun s hm => ?_) (fun K => ?_)
 ·clear h
  revert hm; revert s; intro s1 hm
  have h : m_s_l8Draw_j1 N p0 x1 s1 = some r := hm
  show WT _ _ [(0, .pointer (some ⟨pb0, 0, none⟩)), (4, .pointer (some ⟨b_1, 0, none⟩)), (5, .pointer (some ⟨b_2, 0, none⟩)), (21, .bool s1)] (St w0 Φ_2 [(b_2, .cells #[.int .i64 x1.1, .string (⟨#[]⟩ : ByteArray), .slice none 0 0, .int .i64 0, .string (⟨#[]⟩ : ByteArray)] 135 (0, 0)), (b_1, .cells #[.int .i64 0, .string (⟨#[]⟩ : ByteArray), .slice none 0 0, .int .i64 0, .string (⟨#[]⟩ : ByteArray)] 135 (0, 0))] [[pb0]])
  unfold m_s_l8Draw_j1 at h
  refine WT.cond rfl (fun c2 => ?_) (fun c2 => ?_)
  ·replace h := ite_t h c2
   refine WT.seq <| WT.region <| lq (q_loadN Tn_135 rfl (fun w1 hw => hw.rgO (i := 0) rfl 0 5 [.int .i64 x1.1, .string (⟨#[]⟩ : ByteArray), .slice none 0 0, .int .i64 0, .string (⟨#[]⟩ : ByteArray)] rfl) rfl) rfl <| ls (s_store (i := 1) (vs := [.int .i64 x1.1, .string (⟨#[]⟩ : ByteArray), .slice none 0 0, .int .i64 0, .string (⟨#[]⟩ : ByteArray)]) (C' := [.int .i64 x1.1, .string (⟨#[]⟩ : ByteArray), .slice none 0 0, .int .i64 0, .string (⟨#[]⟩ : ByteArray)]) (O' := [(b_2, .cells #[.int .i64 x1.1, .string (⟨#[]⟩ : ByteArray), .slice none 0 0, .int .i64 0, .string (⟨#[]⟩ : ByteArray)] 135 (0, 0)), (b_1, .cells #[.int .i64 x1.1, .string (⟨#[]⟩ : ByteArray), .slice none 0 0, .int .i64 0, .string (⟨#[]⟩ : ByteArray)] 135 (0, 0))]) Sz_135 rfl rfl rfl rfl rfl rfl ⟨rfl, rfl, rfl, rfl, rfl, trivial⟩ rfl rfl) rfl ?_
   refine WL.nil ?_
   refine WT.ret Tryz.func118 (resOk.one (rv_cell Tn_135 rfl (fun w1 hw => hw.rgO (i := 1) rfl 0 5 [.int .i64 x1.1, .string (⟨#[]⟩ : ByteArray), .slice none 0 0, .int .i64 0, .string (⟨#[]⟩ : ByteArray)] rfl) rfl)) (fun w1 hw => ?_)
   subst hb0
   cases h
   replace hw := hw.addNil
   refine postG_of_St (js := [0, 0]) hw rfl ⟨.slice none 0 0, rfl, rfl, OSl.nil _ _ _ _, rfl, h2⟩
  replace h := ite_f h c2
  refine WT.skip <| WT.inBlock <| WT.seq <| WT.region <| lq (q_move rfl) rfl ?_
  have rc2 : RC RS 1 Φ_2 ([[], [], [], [], []] : List (List Nat)) [.string (⟨#[111, 114, 100, 101, 114]⟩ : ByteArray), .string (⟨#[112, 97, 105, 100]⟩ : ByteArray), .string (⟨#[105, 116, 101, 109]⟩ : ByteArray), .string (⟨#[115, 104, 105, 112]⟩ : ByteArray), .string (⟨#[99, 104, 97, 114, 103, 101]⟩ : ByteArray)] ([(⟨#[111, 114, 100, 101, 114]⟩ : ByteArray), (⟨#[112, 97, 105, 100]⟩ : ByteArray), (⟨#[105, 116, 101, 109]⟩ : ByteArray), (⟨#[115, 104, 105, 112]⟩ : ByteArray), (⟨#[99, 104, 97, 114, 103, 101]⟩ : ByteArray)] : List ByteArray) := RC.cons (c := [.string (⟨#[111, 114, 100, 101, 114]⟩ : ByteArray)]) (cells := [.string (⟨#[112, 97, 105, 100]⟩ : ByteArray), .string (⟨#[105, 116, 101, 109]⟩ : ByteArray), .string (⟨#[115, 104, 105, 112]⟩ : ByteArray), .string (⟨#[99, 104, 97, 114, 103, 101]⟩ : ByteArray)]) ⟨rfl, rfl⟩ rfl (RC.cons (c := [.string (⟨#[112, 97, 105, 100]⟩ : ByteArray)]) (cells := [.string (⟨#[105, 116, 101, 109]⟩ : ByteArray), .string (⟨#[115, 104, 105, 112]⟩ : ByteArray), .string (⟨#[99, 104, 97, 114, 103, 101]⟩ : ByteArray)]) ⟨rfl, rfl⟩ rfl (RC.cons (c := [.string (⟨#[105, 116, 101, 109]⟩ : ByteArray)]) (cells := [.string (⟨#[115, 104, 105, 112]⟩ : ByteArray), .string (⟨#[99, 104, 97, 114, 103, 101]⟩ : ByteArray)]) ⟨rfl, rfl⟩ rfl (RC.cons (c := [.string (⟨#[115, 104, 105, 112]⟩ : ByteArray)]) (cells := [.string (⟨#[99, 104, 97, 114, 103, 101]⟩ : ByteArray)]) ⟨rfl, rfl⟩ rfl (RC.cons (c := [.string (⟨#[99, 104, 97, 114, 103, 101]⟩ : ByteArray)]) (cells := []) ⟨rfl, rfl⟩ rfl (RC.nil _ _ _)))))
  refine le' (e_lit (vs := [(0, .string (⟨#[111, 114, 100, 101, 114]⟩ : ByteArray)), (1, .string (⟨#[112, 97, 105, 100]⟩ : ByteArray)), (2, .string (⟨#[105, 116, 101, 109]⟩ : ByteArray)), (3, .string (⟨#[115, 104, 105, 112]⟩ : ByteArray)), (4, .string (⟨#[99, 104, 97, 114, 103, 101]⟩ : ByteArray))]) (C := #[.string (⟨#[111, 114, 100, 101, 114]⟩ : ByteArray), .string (⟨#[112, 97, 105, 100]⟩ : ByteArray), .string (⟨#[105, 116, 101, 109]⟩ : ByteArray), .string (⟨#[115, 104, 105, 112]⟩ : ByteArray), .string (⟨#[99, 104, 97, 114, 103, 101]⟩ : ByteArray)]) RS.lasts Sl_137 Zr_9 rfl rfl rfl rfl (fill_made MC_9_5 (fill_cons (cells := [.string ⟨#[]⟩, .string ⟨#[]⟩, .string ⟨#[]⟩, .string ⟨#[]⟩, .string ⟨#[]⟩]) (c := [.string (⟨#[111, 114, 100, 101, 114]⟩ : ByteArray)]) (C' := [.string (⟨#[111, 114, 100, 101, 114]⟩ : ByteArray), .string ⟨#[]⟩, .string ⟨#[]⟩, .string ⟨#[]⟩, .string ⟨#[]⟩]) rfl rfl rfl rfl rfl (fill_cons (cells := [.string (⟨#[111, 114, 100, 101, 114]⟩ : ByteArray), .string ⟨#[]⟩, .string ⟨#[]⟩, .string ⟨#[]⟩, .string ⟨#[]⟩]) (c := [.string (⟨#[112, 97, 105, 100]⟩ : ByteArray)]) (C' := [.string (⟨#[111, 114, 100, 101, 114]⟩ : ByteArray), .string (⟨#[112, 97, 105, 100]⟩ : ByteArray), .string ⟨#[]⟩, .string ⟨#[]⟩, .string ⟨#[]⟩]) rfl rfl rfl rfl rfl (fill_cons (cells := [.string (⟨#[111, 114, 100, 101, 114]⟩ : ByteArray), .string (⟨#[112, 97, 105, 100]⟩ : ByteArray), .string ⟨#[]⟩, .string ⟨#[]⟩, .string ⟨#[]⟩]) (c := [.string (⟨#[105, 116, 101, 109]⟩ : ByteArray)]) (C' := [.string (⟨#[111, 114, 100, 101, 114]⟩ : ByteArray), .string (⟨#[112, 97, 105, 100]⟩ : ByteArray), .string (⟨#[105, 116, 101, 109]⟩ : ByteArray), .string ⟨#[]⟩, .string ⟨#[]⟩]) rfl rfl rfl rfl rfl (fill_cons (cells := [.string (⟨#[111, 114, 100, 101, 114]⟩ : ByteArray), .string (⟨#[112, 97, 105, 100]⟩ : ByteArray), .string (⟨#[105, 116, 101, 109]⟩ : ByteArray), .string ⟨#[]⟩, .string ⟨#[]⟩]) (c := [.string (⟨#[115, 104, 105, 112]⟩ : ByteArray)]) (C' := [.string (⟨#[111, 114, 100, 101, 114]⟩ : ByteArray), .string (⟨#[112, 97, 105, 100]⟩ : ByteArray), .string (⟨#[105, 116, 101, 109]⟩ : ByteArray), .string (⟨#[115, 104, 105, 112]⟩ : ByteArray), .string ⟨#[]⟩]) rfl rfl rfl rfl rfl (fill_cons (cells := [.string (⟨#[111, 114, 100, 101, 114]⟩ : ByteArray), .string (⟨#[112, 97, 105, 100]⟩ : ByteArray), .string (⟨#[105, 116, 101, 109]⟩ : ByteArray), .string (⟨#[115, 104, 105, 112]⟩ : ByteArray), .string ⟨#[]⟩]) (c := [.string (⟨#[99, 104, 97, 114, 103, 101]⟩ : ByteArray)]) (C' := [.string (⟨#[111, 114, 100, 101, 114]⟩ : ByteArray), .string (⟨#[112, 97, 105, 100]⟩ : ByteArray), .string (⟨#[105, 116, 101, 109]⟩ : ByteArray), .string (⟨#[115, 104, 105, 112]⟩ : ByteArray), .string (⟨#[99, 104, 97, 114, 103, 101]⟩ : ByteArray)]) rfl rfl rfl rfl rfl (fill_nil))))))) rfl rc2 rfl (by simpa using Kw.nil)) rfl (fun v4 Φ_4 D2 q4 => ?_)
  obtain ⟨fr4, h4⟩ := q4
  replace h4 : OSl RS 9 1 Φ_4 [] v4 ([(⟨#[111, 114, 100, 101, 114]⟩ : ByteArray), (⟨#[112, 97, 105, 100]⟩ : ByteArray), (⟨#[105, 116, 101, 109]⟩ : ByteArray), (⟨#[115, 104, 105, 112]⟩ : ByteArray), (⟨#[99, 104, 97, 114, 103, 101]⟩ : ByteArray)] : List ByteArray) := by simpa using h4
  replace ph0_0 := ph0_0.frame RI.lasts fr4 (Dj.empty _)
  replace h2 := fr4 _ _ (by simp) h2
  obtain ⟨x3, hx3, h⟩ := bind_some h
  refine lc (k_call (js := [1]) (R := [ob v4]) Fun_101 rfl rfl (fun w1 hw ap hl => m_s_l1Str_ok hw.fro N (⟨p0.b, x1.2.i, x1.2.h⟩ : Tl1Cur) ([(⟨#[111, 114, 100, 101, 114]⟩ : ByteArray), (⟨#[112, 97, 105, 100]⟩ : ByteArray), (⟨#[105, 116, 101, 109]⟩ : ByteArray), (⟨#[115, 104, 105, 112]⟩ : ByteArray), (⟨#[99, 104, 97, 114, 103, 101]⟩ : ByteArray)] : List ByteArray) ph0_0 h2 h4.rsl (ap.o pa0_0) (Dj.app (ap.r (i := 0) rfl) (Dj.nil _)) ap.nd hl hx3)) rfl (fun v5 Φ_5 F3 q5 => ?_)
  obtain ⟨ap3, fr5, rfl, rfl, e3, h5⟩ := q5
  replace ph0_0 := ph0_0.frame RI.lasts fr5 (ap3.o pa0_0)
  refine lq (q_fieldAddr Fld_135_1 rfl) rfl <| ls (s_store (i := 0) (vs := [.string x3.1]) (C' := [.int .i64 x1.1, .string x3.1, .slice none 0 0, .int .i64 0, .string (⟨#[]⟩ : ByteArray)]) (O' := [(b_2, .cells #[.int .i64 x1.1, .string x3.1, .slice none 0 0, .int .i64 0, .string (⟨#[]⟩ : ByteArray)] 135 (0, 0)), (b_1, .cells #[.int .i64 0, .string (⟨#[]⟩ : ByteArray), .slice none 0 0, .int .i64 0, .string (⟨#[]⟩ : ByteArray)] 135 (0, 0))]) Sz_9 rfl rfl rfl rfl rfl rfl ⟨rfl, trivial⟩ rfl rfl) rfl ?_
  refine WL.nil <| WT.seq <| WT.region <| lq (q_assign rfl) rfl <| WL.nil <| WT.seq <| WT.seq <| WT.region <| lq (q_fieldAddr Fld_135_1 rfl) rfl <| lq (q_load1 T1_9 rfl (fun w1 hw => hw.rgO (i := 0) rfl 1 1 [.string x3.1] rfl)) rfl <| lq (q_seq rfl rfl) rfl <| WL.nil ?_
  refine cut (σ := Int) (fun s => [(0, .pointer (some ⟨pb0, 0, none⟩)), (4, .pointer (some ⟨b_1, 0, none⟩)), (5, .pointer (some ⟨b_2, 0, none⟩)), (6, .int .i64 s)]) (fun s => St w0 Φ_5 [(b_2, .cells #[.int .i64 x1.1, .string x3.1, .slice none 0 0, .int .i64 0, .string (⟨#[]⟩ : ByteArray)] 135 (0, 0)), (b_1, .cells #[.int .i64 0, .string (⟨#[]⟩ : ByteArray), .slice none 0 0, .int .i64 0, .string (⟨#[]⟩ : ByteArray)] 135 (0, 0))] [[pb0]]) (fun s => m_s_l8Draw_j2 N p0 x1 x3 s = some r) (fun s hm => ?_) (fun K => ?_)
  ·clear h
   revert hm; revert s; intro s2 hm
   have h : m_s_l8Draw_j2 N p0 x1 x3 s2 = some r := hm
   show WT _ _ [(0, .pointer (some ⟨pb0, 0, none⟩)), (4, .pointer (some ⟨b_1, 0, none⟩)), (5, .pointer (some ⟨b_2, 0, none⟩)), (6, .int .i64 s2)] (St w0 Φ_5 [(b_2, .cells #[.int .i64 x1.1, .string x3.1, .slice none 0 0, .int .i64 0, .string (⟨#[]⟩ : ByteArray)] 135 (0, 0)), (b_1, .cells #[.int .i64 0, .string (⟨#[]⟩ : ByteArray), .slice none 0 0, .int .i64 0, .string (⟨#[]⟩ : ByteArray)] 135 (0, 0))] [[pb0]])
   unfold m_s_l8Draw_j2 at h
   refine WT.seq <| WT.seq <| WT.region <| lq (q_assign rfl) rfl <| WL.nil <| WT.block <| WT.loop <| WT.conv (S' := St w0 Φ_5 [(b_2, .cells #[.int .i64 x1.1, .string x3.1, .slice none 0 0, .int .i64 0, .string (⟨#[]⟩ : ByteArray)] 135 (0, 0)), (b_1, .cells #[.int .i64 0, .string (⟨#[]⟩ : ByteArray), .slice none 0 0, .int .i64 0, .string (⟨#[]⟩ : ByteArray)] 135 (0, 0))] (ob (.slice none 0 0) :: [[pb0]])) (fun w1 hw => hw.addNil) ?_
   have k1 := OSl.nil RTExpr 175 11 Φ_5
   refine WT.mono (l' := [(0, .pointer (some ⟨pb0, 0, none⟩)), (4, .pointer (some ⟨b_1, 0, none⟩)), (5, .pointer (some ⟨b_2, 0, none⟩)), (6, .int .i64 s2), (7, .int .i64 0)]) (S' := St w0 Φ_5 [(b_2, .cells #[.int .i64 x1.1, .string x3.1, (.slice none 0 0), .int .i64 0, .string (⟨#[]⟩ : ByteArray)] 135 (0, 0)), (b_1, .cells #[.int .i64 0, .string (⟨#[]⟩ : ByteArray), .slice none 0 0, .int .i64 0, .string (⟨#[]⟩ : ByteArray)] 135 (0, 0))] [ob (.slice none 0 0), [pb0]]) ⟨rfl, rfl, rfl, rfl, rfl, trivial⟩ (fun w1 hw => (hw.sel (js := [0, 0]) rfl).selO (js := [0, 0]) rfl) ?_
   refine loop_ind (σ := Hp × (List TExpr) × Value × Int × Int × Int) (fun s => [(0, .pointer (some ⟨pb0, 0, none⟩)), (4, .pointer (some ⟨b_1, 0, none⟩)), (5, .pointer (some ⟨b_2, 0, none⟩)), (6, .int .i64 s2), (7, .int .i64 s.2.2.2.1)]) (fun s => St w0 s.1 [(b_2, .cells #[.int .i64 x1.1, .string x3.1, s.2.2.1, .int .i64 0, .string (⟨#[]⟩ : ByteArray)] 135 (0, 0)), (b_1, .cells #[.int .i64 0, .string (⟨#[]⟩ : ByteArray), .slice none 0 0, .int .i64 0, .string (⟨#[]⟩ : ByteArray)] 135 (0, 0))] [ob s.2.2.1, [pb0]]) (fun m s => m_s_l8Draw_l3 N p0 x1 x3 s2 m s.2.1 s.2.2.2.1 s.2.2.2.2.1 s.2.2.2.2.2 = some r ∧ (OSl RTExpr 175 11 s.1 [] s.2.2.1 s.2.1) ∧ (s.1 pb0 = some (.cells #[pv0_0, .int .i64 s.2.2.2.2.1, .int .i64 s.2.2.2.2.2] 159 (0, 0))) ∧ (RSl (RI .u8) 1 s.1 pG0_0 pv0_0 p0.b)) (fun s hm => none_ne (show (none : Option (TAct × Tl1Cur)) = some r from hm.1)) (fun n3 ih3 s hm => ?_) N (Φ_5, ([] : List TExpr), (.slice none 0 0), 0, x3.2.i, x3.2.h) ⟨h, k1, h5, ph0_0⟩
   obtain ⟨Φ_6, s3, u1, s4, s5, s6⟩ := s
   obtain ⟨h, k2, k3, ph0_0⟩ := hm
   replace h : m_s_l8Draw_l3 N p0 x1 x3 s2 (n3 + 1) s3 s4 s5 s6 = some r := h
   replace k2 : OSl RTExpr 175 11 Φ_6 [] u1 s3 := k2
   replace k3 : Φ_6 pb0 = some (.cells #[pv0_0, .int .i64 s5, .int .i64 s6] 159 (0, 0)) := k3
   replace ph0_0 : RSl (RI .u8) 1 Φ_6 pG0_0 pv0_0 p0.b := ph0_0
   show WT _ _ [(0, .pointer (some ⟨pb0, 0, none⟩)), (4, .pointer (some ⟨b_1, 0, none⟩)), (5, .pointer (some ⟨b_2, 0, none⟩)), (6, .int .i64 s2), (7, .int .i64 s4)] (St w0 Φ_6 [(b_2, .cells #[.int .i64 x1.1, .string x3.1, u1, .int .i64 0, .string (⟨#[]⟩ : ByteArray)] 135 (0, 0)), (b_1, .cells #[.int .i64 0, .string (⟨#[]⟩ : ByteArray), .slice none 0 0, .int .i64 0, .string (⟨#[]⟩ : ByteArray)] 135 (0, 0))] [ob u1, [pb0]])
   unfold m_s_l8Draw_l3 at h
   refine WT.seq <| WT.seq <| WT.region <| lq (q_move rfl) rfl <| lq (q_move rfl) rfl <| lq (q_lss rfl rfl) rfl <| WL.nil ?_
   refine WT.cond rfl (fun c3 => ?_) (fun c3 => ?_)
   ·replace h := ite_t h c3
    refine WT.skip <| WT.seq <| WT.block <| WT.mix (Kn Φ_6 [] [(b_2, .cells #[.int .i64 x1.1, .string x3.1, u1, .int .i64 0, .string (⟨#[]⟩ : ByteArray)] 135 (0, 0)), (b_1, .cells #[.int .i64 0, .string (⟨#[]⟩ : ByteArray), .slice none 0 0, .int .i64 0, .string (⟨#[]⟩ : ByteArray)] 135 (0, 0))]) (fun i => match i with | 7 => false | _ => true) mixed (fun _ h => h.drew) <| mq 0 rfl (by kernel_rfl) (fun w1 hw => Kn.of (fun k hk _ _ => by simp at hk) (AllIn.mem ⟨gM 0 rfl, gM 1 rfl, trivial⟩) hw) (q_fieldAddr Fld_135_2 rfl) rfl ?_
    refine mq 1 rfl (by kernel_rfl) (fun w1 hw => Kn.of (fun k hk _ _ => by simp at hk) (AllIn.mem ⟨gM 0 rfl, gM 1 rfl, trivial⟩) hw) (q_load1 T1_133 rfl (fun w1 hw => hw.rgO (i := 0) rfl 2 1 [u1] rfl)) rfl <| mq 2 rfl (by kernel_rfl) (fun w1 hw => Kn.of (fun k hk _ _ => by simp at hk) (AllIn.mem ⟨gM 0 rfl, gM 1 rfl, trivial⟩) hw) (q_move rfl) rfl ?_
    obtain ⟨x4, hx4, h⟩ := bind_some h
    refine WM.one 3 (by kernel_rfl) (mc rfl (fun _ v Φx D w1 hq hw => Kn.of (fun k hk _ _ => by simp at hk) (AllIn.mem ⟨gM 0 rfl, gM 1 rfl, trivial⟩) hw) (k_call (js := [1]) (R := [ob u1]) Fun_182 rfl rfl (fun w1 hw ap hl => m_s_l8Expr_ok hw.fro N (⟨p0.b, s5, s6⟩ : Tl1Cur) ph0_0 k3 (ap.o pa0_0) ap.nd hl hx4)) rfl (fun v6 Φ_7 F4 q6 => ?_))
    obtain ⟨ap4, fr6, rfl, rfl, e4, h6⟩ := q6
    replace ph0_0 := ph0_0.frame RI.lasts fr6 (ap4.o pa0_0)
    replace k2 := k2.frame RTExpr.lasts fr6 (ap4.r (i := 0) rfl) (Dj.nil _)
    have rc3 : RC RTExpr 11 Φ_7 ([[]] : List (List Nat)) [.string x4.1.Op, .int .i64 x4.1.L.K, .string x4.1.L.S, .int .i64 x4.1.L.V.K, .int .i64 x4.1.L.V.N, .string x4.1.L.V.S, .int .i64 x4.1.R.K, .string x4.1.R.S, .int .i64 x4.1.R.V.K, .int .i64 x4.1.R.V.N, .string x4.1.R.V.S] ([x4.1] : List TExpr) := RC.cons (c := [.string x4.1.Op, .int .i64 x4.1.L.K, .string x4.1.L.S, .int .i64 x4.1.L.V.K, .int .i64 x4.1.L.V.N, .string x4.1.L.V.S, .int .i64 x4.1.R.K, .string x4.1.R.S, .int .i64 x4.1.R.V.K, .int .i64 x4.1.R.V.N, .string x4.1.R.V.S]) (cells := []) ⟨rfl, rfl⟩ rfl (RC.nil _ _ _)
    refine WM.one 4 (by kernel_rfl) (me rfl (fun _ v Φx D w1 hq hw => Kn.of (fun k hk _ _ => by simp at hk) (AllIn.mem ⟨gM 0 rfl, gM 1 rfl, trivial⟩) hw) (e_lit (vs := [(0, .agg [.string x4.1.Op, .int .i64 x4.1.L.K, .string x4.1.L.S, .int .i64 x4.1.L.V.K, .int .i64 x4.1.L.V.N, .string x4.1.L.V.S, .int .i64 x4.1.R.K, .string x4.1.R.S, .int .i64 x4.1.R.V.K, .int .i64 x4.1.R.V.N, .string x4.1.R.V.S].toArray)]) (C := #[.string x4.1.Op, .int .i64 x4.1.L.K, .string x4.1.L.S, .int .i64 x4.1.L.V.K, .int .i64 x4.1.L.V.N, .string x4.1.L.V.S, .int .i64 x4.1.R.K, .string x4.1.R.S, .int .i64 x4.1.R.V.K, .int .i64 x4.1.R.V.N, .string x4.1.R.V.S]) RTExpr.lasts Sl_133 Zr_175 rfl rfl rfl rfl (fill_made MC_175_1 (fill_cons (cells := [.string ⟨#[]⟩, .int .i64 0, .string ⟨#[]⟩, .int .i64 0, .int .i64 0, .string ⟨#[]⟩, .int .i64 0, .string ⟨#[]⟩, .int .i64 0, .int .i64 0, .string ⟨#[]⟩]) (c := [.string x4.1.Op, .int .i64 x4.1.L.K, .string x4.1.L.S, .int .i64 x4.1.L.V.K, .int .i64 x4.1.L.V.N, .string x4.1.L.V.S, .int .i64 x4.1.R.K, .string x4.1.R.S, .int .i64 x4.1.R.V.K, .int .i64 x4.1.R.V.N, .string x4.1.R.V.S]) (C' := [.string x4.1.Op, .int .i64 x4.1.L.K, .string x4.1.L.S, .int .i64 x4.1.L.V.K, .int .i64 x4.1.L.V.N, .string x4.1.L.V.S, .int .i64 x4.1.R.K, .string x4.1.R.S, .int .i64 x4.1.R.V.K, .int .i64 x4.1.R.V.N, .string x4.1.R.V.S]) rfl rfl rfl rfl rfl (fill_nil))) rfl rc3 rfl (by simpa using Kw.nil)) rfl (fun v7 Φ_8 D3 q7 => ?_))
    obtain ⟨fr7, h7⟩ := q7
    replace h7 : OSl RTExpr 175 11 Φ_8 [] v7 ([x4.1] : List TExpr) := by simpa using h7
    replace ph0_0 := ph0_0.frame RI.lasts fr7 (Dj.empty _)
    replace k2 := k2.frame RTExpr.lasts fr7 (Dj.empty _) (Dj.empty _)
    replace h6 := fr7 _ _ (by simp) h6
    obtain ⟨x5, hx5, h⟩ := bind_some h
    refine WM.one 5 (by kernel_rfl) (me rfl (fun _ v Φx D w1 hq hw => Kn.of (fun k hk _ _ => by simp at hk) (AllIn.mem ⟨gM 0 rfl, gM 1 rfl, trivial⟩) hw) (e_appF RTExpr.lasts RTExpr.one RTExpr.flat Sl_133 Ei_175 rfl rfl rfl rfl rfl (js := [2]) (Rr := [ob v7, [pb0]]) rfl k2 h7.rsl hx5) rfl (fun v8 Φ_9 D4 q8 => ?_))
    obtain ⟨⟨ap5, fr8⟩, h8⟩ := q8
    replace ph0_0 := ph0_0.frame RI.lasts fr8 (ap5.o pa0_0)
    replace h6 := fr8 _ _ ((ap5.r (i := 1) rfl) _ (by simp)) h6
    refine mq 6 rfl (by kernel_rfl) (fun w1 hw => Kn.of (fun k hk _ _ => by simp at hk) (AllIn.mem ⟨gM 0 rfl, gM 1 rfl, trivial⟩) hw) (q_fieldAddr Fld_135_2 rfl) rfl ?_
    refine WM.one 7 (by kernel_rfl) (ms rfl (fun hc => by cases hc) (s_store (i := 0) (vs := [v8]) (C' := [.int .i64 x1.1, .string x3.1, v8, .int .i64 0, .string (⟨#[]⟩ : ByteArray)]) (O' := [(b_2, .cells #[.int .i64 x1.1, .string x3.1, v8, .int .i64 0, .string (⟨#[]⟩ : ByteArray)] 135 (0, 0)), (b_1, .cells #[.int .i64 0, .string (⟨#[]⟩ : ByteArray), .slice none 0 0, .int .i64 0, .string (⟨#[]⟩ : ByteArray)] 135 (0, 0))]) Sz_133 rfl rfl rfl (one_cells h8.one) rfl rfl ⟨h8.one, trivial⟩ rfl rfl) rfl ?_)
    refine WM.nil (by kernel_rfl) <| WT.inBlock <| WT.region <| lq (q_move rfl) rfl <| lq (q_add rfl rfl) rfl <| lq (q_assign rfl) rfl <| WL.nil ?_
    refine WT.inLoop (WT.mono (l' := [(0, .pointer (some ⟨pb0, 0, none⟩)), (4, .pointer (some ⟨b_1, 0, none⟩)), (5, .pointer (some ⟨b_2, 0, none⟩)), (6, .int .i64 s2), (7, .int .i64 (IntKind.i64.wrap (s4 + 1)))]) (S' := St w0 Φ_9 [(b_2, .cells #[.int .i64 x1.1, .string x3.1, v8, .int .i64 0, .string (⟨#[]⟩ : ByteArray)] 135 (0, 0)), (b_1, .cells #[.int .i64 0, .string (⟨#[]⟩ : ByteArray), .slice none 0 0, .int .i64 0, .string (⟨#[]⟩ : ByteArray)] 135 (0, 0))] [ob v8, [pb0]]) ⟨rfl, rfl, rfl, rfl, rfl, trivial⟩ (fun w1 hw => (hw.sel (js := [0, 1]) rfl).selO (js := [0, 0]) rfl) ?_)
    exact ih3 (Φ_9, x5, v8, IntKind.i64.wrap (s4 + 1), x4.2.i, x4.2.h) ⟨h, h8, h6, ph0_0⟩
   replace h := ite_f h c3
   refine WT.exit rfl <| WT.seq <| WT.seq <| WT.region <| lq (q_fieldAddr Fld_135_0 rfl) rfl <| lq (q_load1 T1_3 rfl (fun w1 hw => hw.rgO (i := 0) rfl 0 1 [.int .i64 x1.1] rfl)) rfl <| lq (q_eql rfl rfl) rfl <| WL.nil ?_
   refine cut (σ := Hp × Int × Int × Int) (fun s => [(0, .pointer (some ⟨pb0, 0, none⟩)), (4, .pointer (some ⟨b_1, 0, none⟩)), (5, .pointer (some ⟨b_2, 0, none⟩))]) (fun s => St w0 s.1 [(b_2, .cells #[.int .i64 x1.1, .string x3.1, u1, .int .i64 s.2.2.2, .string (⟨#[]⟩ : ByteArray)] 135 (0, 0)), (b_1, .cells #[.int .i64 0, .string (⟨#[]⟩ : ByteArray), .slice none 0 0, .int .i64 0, .string (⟨#[]⟩ : ByteArray)] 135 (0, 0))] [ob u1, [pb0]]) (fun s => m_s_l8Draw_j4 N p0 x1 x3 s3 s.2.1 s.2.2.1 s.2.2.2 = some r ∧ (OSl RTExpr 175 11 s.1 [] u1 s3) ∧ (s.1 pb0 = some (.cells #[pv0_0, .int .i64 s.2.1, .int .i64 s.2.2.1] 159 (0, 0))) ∧ (RSl (RI .u8) 1 s.1 pG0_0 pv0_0 p0.b)) (fun s hm => ?_) (fun K => ?_)
   ·clear h
    obtain ⟨Φ_10, s7, s8, s9⟩ := s
    obtain ⟨h, k2, k4, ph0_0⟩ := hm
    replace h : m_s_l8Draw_j4 N p0 x1 x3 s3 s7 s8 s9 = some r := h
    replace k2 : OSl RTExpr 175 11 Φ_10 [] u1 s3 := k2
    replace k4 : Φ_10 pb0 = some (.cells #[pv0_0, .int .i64 s7, .int .i64 s8] 159 (0, 0)) := k4
    replace ph0_0 : RSl (RI .u8) 1 Φ_10 pG0_0 pv0_0 p0.b := ph0_0
    show WT _ _ [(0, .pointer (some ⟨pb0, 0, none⟩)), (4, .pointer (some ⟨b_1, 0, none⟩)), (5, .pointer (some ⟨b_2, 0, none⟩))] (St w0 Φ_10 [(b_2, .cells #[.int .i64 x1.1, .string x3.1, u1, .int .i64 s9, .string (⟨#[]⟩ : ByteArray)] 135 (0, 0)), (b_1, .cells #[.int .i64 0, .string (⟨#[]⟩ : ByteArray), .slice none 0 0, .int .i64 0, .string (⟨#[]⟩ : ByteArray)] 135 (0, 0))] [ob u1, [pb0]])
    unfold m_s_l8Draw_j4 at h
    refine WT.seq <| WT.seq <| WT.region <| lq (q_fieldAddr Fld_135_0 rfl) rfl <| lq (q_load1 T1_3 rfl (fun w1 hw => hw.rgO (i := 0) rfl 0 1 [.int .i64 x1.1] rfl)) rfl <| lq (q_eql rfl rfl) rfl <| lq (q_move rfl) rfl ?_
    refine WL.cutS 3 (σ := Hp × Bool × Int × Int) (fun s => [(0, .pointer (some ⟨pb0, 0, none⟩)), (4, .pointer (some ⟨b_1, 0, none⟩)), (5, .pointer (some ⟨b_2, 0, none⟩)), (57, .bool s.2.1)]) (fun s => St w0 s.1 [(b_2, .cells #[.int .i64 x1.1, .string x3.1, u1, .int .i64 s9, .string (⟨#[]⟩ : ByteArray)] 135 (0, 0)), (b_1, .cells #[.int .i64 0, .string (⟨#[]⟩ : ByteArray), .slice none 0 0, .int .i64 0, .string (⟨#[]⟩ : ByteArray)] 135 (0, 0))] [ob u1, [pb0]]) (fun s => m_s_l8Draw_j5 N p0 x1 x3 s3 s9 s.2.1 s.2.2.1 s.2.2.2 = some r ∧ (OSl RTExpr 175 11 s.1 [] u1 s3) ∧ (s.1 pb0 = some (.cells #[pv0_0, .int .i64 s.2.2.1, .int .i64 s.2.2.2] 159 (0, 0))) ∧ (RSl (RI .u8) 1 s.1 pG0_0 pv0_0 p0.b)) (fun s hm => ?_) (fun K => ?_)
    ·clear h
     obtain ⟨Φ_11, s10, s11, s12⟩ := s
     obtain ⟨h, k2, k5, ph0_0⟩ := hm
     replace h : m_s_l8Draw_j5 N p0 x1 x3 s3 s9 s10 s11 s12 = some r := h
     replace k2 : OSl RTExpr 175 11 Φ_11 [] u1 s3 := k2
     replace k5 : Φ_11 pb0 = some (.cells #[pv0_0, .int .i64 s11, .int .i64 s12] 159 (0, 0)) := k5
     replace ph0_0 : RSl (RI .u8) 1 Φ_11 pG0_0 pv0_0 p0.b := ph0_0
     show WL _ _ _ _ [(0, .pointer (some ⟨pb0, 0, none⟩)), (4, .pointer (some ⟨b_1, 0, none⟩)), (5, .pointer (some ⟨b_2, 0, none⟩)), (57, .bool s10)] (St w0 Φ_11 [(b_2, .cells #[.int .i64 x1.1, .string x3.1, u1, .int .i64 s9, .string (⟨#[]⟩ : ByteArray)] 135 (0, 0)), (b_1, .cells #[.int .i64 0, .string (⟨#[]⟩ : ByteArray), .slice none 0 0, .int .i64 0, .string (⟨#[]⟩ : ByteArray)] 135 (0, 0))] [ob u1, [pb0]])
     unfold m_s_l8Draw_j5 at h
     refine WL.nil ?_
     refine cut (σ := Hp × Int × Int × ByteArray) (fun s => [(4, .pointer (some ⟨b_1, 0, none⟩)), (5, .pointer (some ⟨b_2, 0, none⟩))]) (fun s => St w0 s.1 [(b_2, .cells #[.int .i64 x1.1, .string x3.1, u1, .int .i64 s9, .string s.2.2.2] 135 (0, 0)), (b_1, .cells #[.int .i64 0, .string (⟨#[]⟩ : ByteArray), .slice none 0 0, .int .i64 0, .string (⟨#[]⟩ : ByteArray)] 135 (0, 0))] [ob u1, [pb0]]) (fun s => m_s_l8Draw_j6 N p0 x1 x3 s3 s9 s.2.1 s.2.2.1 s.2.2.2 = some r ∧ (OSl RTExpr 175 11 s.1 [] u1 s3) ∧ (s.1 pb0 = some (.cells #[pv0_0, .int .i64 s.2.1, .int .i64 s.2.2.1] 159 (0, 0))) ∧ (RSl (RI .u8) 1 s.1 pG0_0 pv0_0 p0.b)) (fun s hm => ?_) (fun K => ?_)
     ·clear h
      obtain ⟨Φ_12, s13, s14, s15⟩ := s
      obtain ⟨h, k2, k6, ph0_0⟩ := hm
      replace h : m_s_l8Draw_j6 N p0 x1 x3 s3 s9 s13 s14 s15 = some r := h
      replace k2 : OSl RTExpr 175 11 Φ_12 [] u1 s3 := k2
      replace k6 : Φ_12 pb0 = some (.cells #[pv0_0, .int .i64 s13, .int .i64 s14] 159 (0, 0)) := k6
      replace ph0_0 : RSl (RI .u8) 1 Φ_12 pG0_0 pv0_0 p0.b := ph0_0
      show WT _ _ [(4, .pointer (some ⟨b_1, 0, none⟩)), (5, .pointer (some ⟨b_2, 0, none⟩))] (St w0 Φ_12 [(b_2, .cells #[.int .i64 x1.1, .string x3.1, u1, .int .i64 s9, .string s15] 135 (0, 0)), (b_1, .cells #[.int .i64 0, .string (⟨#[]⟩ : ByteArray), .slice none 0 0, .int .i64 0, .string (⟨#[]⟩ : ByteArray)] 135 (0, 0))] [ob u1, [pb0]])
      unfold m_s_l8Draw_j6 at h
      refine WT.seq <| WT.region <| lq (q_loadN Tn_135 rfl (fun w1 hw => hw.rgO (i := 0) rfl 0 5 [.int .i64 x1.1, .string x3.1, u1, .int .i64 s9, .string s15] rfl) rfl) rfl <| ls (s_store (i := 1) (vs := [.int .i64 x1.1, .string x3.1, u1, .int .i64 s9, .string s15]) (C' := [.int .i64 x1.1, .string x3.1, u1, .int .i64 s9, .string s15]) (O' := [(b_2, .cells #[.int .i64 x1.1, .string x3.1, u1, .int .i64 s9, .string s15] 135 (0, 0)), (b_1, .cells #[.int .i64 x1.1, .string x3.1, u1, .int .i64 s9, .string s15] 135 (0, 0))]) Sz_135 rfl rfl rfl rfl rfl rfl ⟨rfl, rfl, k2.one, rfl, rfl, trivial⟩ rfl rfl) rfl ?_
      refine WL.nil ?_
      refine WT.ret Tryz.func118 (resOk.one (rv_cell Tn_135 rfl (fun w1 hw => hw.rgO (i := 1) rfl 0 5 [.int .i64 x1.1, .string x3.1, u1, .int .i64 s9, .string s15] rfl) rfl)) (fun w1 hw => ?_)
      subst hb0
      cases h
      refine postG_of_St (js := [0, 0]) hw rfl ⟨u1, rfl, rfl, k2, rfl, k6⟩
     refine WT.cond rfl (fun c4 => ?_) (fun c4 => ?_)
     ·replace h := ite_t h c4
      refine WT.region <| lq (q_move rfl) rfl ?_
      have rc4 : RC RS 1 Φ_11 ([[], []] : List (List Nat)) [.string (⟨#[114, 101, 102, 117, 110, 100]⟩ : ByteArray), .string (⟨#[99, 97, 110, 99, 101, 108]⟩ : ByteArray)] ([(⟨#[114, 101, 102, 117, 110, 100]⟩ : ByteArray), (⟨#[99, 97, 110, 99, 101, 108]⟩ : ByteArray)] : List ByteArray) := RC.cons (c := [.string (⟨#[114, 101, 102, 117, 110, 100]⟩ : ByteArray)]) (cells := [.string (⟨#[99, 97, 110, 99, 101, 108]⟩ : ByteArray)]) ⟨rfl, rfl⟩ rfl (RC.cons (c := [.string (⟨#[99, 97, 110, 99, 101, 108]⟩ : ByteArray)]) (cells := []) ⟨rfl, rfl⟩ rfl (RC.nil _ _ _))
      refine le' (e_lit (vs := [(0, .string (⟨#[114, 101, 102, 117, 110, 100]⟩ : ByteArray)), (1, .string (⟨#[99, 97, 110, 99, 101, 108]⟩ : ByteArray))]) (C := #[.string (⟨#[114, 101, 102, 117, 110, 100]⟩ : ByteArray), .string (⟨#[99, 97, 110, 99, 101, 108]⟩ : ByteArray)]) RS.lasts Sl_137 Zr_9 rfl rfl rfl rfl (fill_made MC_9_2 (fill_cons (cells := [.string ⟨#[]⟩, .string ⟨#[]⟩]) (c := [.string (⟨#[114, 101, 102, 117, 110, 100]⟩ : ByteArray)]) (C' := [.string (⟨#[114, 101, 102, 117, 110, 100]⟩ : ByteArray), .string ⟨#[]⟩]) rfl rfl rfl rfl rfl (fill_cons (cells := [.string (⟨#[114, 101, 102, 117, 110, 100]⟩ : ByteArray), .string ⟨#[]⟩]) (c := [.string (⟨#[99, 97, 110, 99, 101, 108]⟩ : ByteArray)]) (C' := [.string (⟨#[114, 101, 102, 117, 110, 100]⟩ : ByteArray), .string (⟨#[99, 97, 110, 99, 101, 108]⟩ : ByteArray)]) rfl rfl rfl rfl rfl (fill_nil)))) rfl rc4 rfl (by simpa using Kw.nil)) rfl (fun v9 Φ_13 D5 q9 => ?_)
      obtain ⟨fr9, h9⟩ := q9
      replace h9 : OSl RS 9 1 Φ_13 [] v9 ([(⟨#[114, 101, 102, 117, 110, 100]⟩ : ByteArray), (⟨#[99, 97, 110, 99, 101, 108]⟩ : ByteArray)] : List ByteArray) := by simpa using h9
      replace ph0_0 := ph0_0.frame RI.lasts fr9 (Dj.empty _)
      replace k2 := k2.frame RTExpr.lasts fr9 (Dj.empty _) (Dj.empty _)
      replace k5 := fr9 _ _ (by simp) k5
      obtain ⟨x6, hx6, h⟩ := bind_some h
      refine lc (k_call (js := [2]) (R := [ob v9, ob u1]) Fun_101 rfl rfl (fun w1 hw ap hl => m_s_l1Str_ok hw.fro N (⟨p0.b, s11, s12⟩ : Tl1Cur) ([(⟨#[114, 101, 102, 117, 110, 100]⟩ : ByteArray), (⟨#[99, 97, 110, 99, 101, 108]⟩ : ByteArray)] : List ByteArray) ph0_0 k5 h9.rsl (ap.o pa0_0) (Dj.app (ap.r (i := 0) rfl) (Dj.nil _)) ap.nd hl hx6)) rfl (fun v10 Φ_14 F5 q10 => ?_)
      obtain ⟨ap6, fr10, rfl, rfl, e5, h10⟩ := q10
      replace ph0_0 := ph0_0.frame RI.lasts fr10 (ap6.o pa0_0)
      replace k2 := k2.frame RTExpr.lasts fr10 (ap6.r (i := 1) rfl) (Dj.nil _)
      refine lq (q_fieldAddr Fld_135_4 rfl) rfl <| ls (s_store (i := 0) (vs := [.string x6.1]) (C' := [.int .i64 x1.1, .string x3.1, u1, .int .i64 s9, .string x6.1]) (O' := [(b_2, .cells #[.int .i64 x1.1, .string x3.1, u1, .int .i64 s9, .string x6.1] 135 (0, 0)), (b_1, .cells #[.int .i64 0, .string (⟨#[]⟩ : ByteArray), .slice none 0 0, .int .i64 0, .string (⟨#[]⟩ : ByteArray)] 135 (0, 0))]) Sz_9 rfl rfl rfl rfl rfl rfl ⟨rfl, trivial⟩ rfl rfl) rfl ?_
      refine WL.nil <| WT.mono (l' := [(4, .pointer (some ⟨b_1, 0, none⟩)), (5, .pointer (some ⟨b_2, 0, none⟩))]) (S' := St w0 Φ_14 [(b_2, .cells #[.int .i64 x1.1, .string x3.1, u1, .int .i64 s9, .string x6.1] 135 (0, 0)), (b_1, .cells #[.int .i64 0, .string (⟨#[]⟩ : ByteArray), .slice none 0 0, .int .i64 0, .string (⟨#[]⟩ : ByteArray)] 135 (0, 0))] [ob u1, [pb0]]) ⟨rfl, rfl, trivial⟩ (fun w1 hw => (hw.sel (js := [2, 0]) rfl).selO (js := [0, 0]) rfl) ?_
      exact K (Φ_14, x6.2.i, x6.2.h, x6.1) ⟨h, k2, h10, ph0_0⟩
     replace h := ite_f h c4
     refine WT.skip <| WT.mono (l' := [(4, .pointer (some ⟨b_1, 0, none⟩)), (5, .pointer (some ⟨b_2, 0, none⟩))]) (S' := St w0 Φ_11 [(b_2, .cells #[.int .i64 x1.1, .string x3.1, u1, .int .i64 s9, .string (⟨#[]⟩ : ByteArray)] 135 (0, 0)), (b_1, .cells #[.int .i64 0, .string (⟨#[]⟩ : ByteArray), .slice none 0 0, .int .i64 0, .string (⟨#[]⟩ : ByteArray)] 135 (0, 0))] [ob u1, [pb0]]) ⟨rfl, rfl, trivial⟩ (fun w1 hw => (hw.sel (js := [0, 0]) rfl).selO (js := [0, 0]) rfl) ?_
     exact K (Φ_11, s11, s12, (⟨#[]⟩ : ByteArray)) ⟨h, k2, k5, ph0_0⟩
    refine WL.split (d := 54) rfl (fun c5 => ?_) (fun c5 => ?_)
    ·replace h := ite_t h c5
     refine WL.yes rfl rfl <| lq (q_move rfl) rfl <| WL.yes rfl rfl ?_
     obtain ⟨x7, hx7, h⟩ := bind_some h
     refine lc (k_call (js := [1]) (R := [ob u1]) Fun_47 rfl rfl (fun w1 hw ap hl => m_s_l1Once_ok hw.fro N (⟨p0.b, s7, s8⟩ : Tl1Cur) 2 ph0_0 k4 (ap.o pa0_0) ap.nd hl hx7)) rfl (fun v11 Φ_15 F6 q11 => ?_)
     obtain ⟨ap7, fr11, rfl, rfl, e6, h11⟩ := q11
     replace ph0_0 := ph0_0.frame RI.lasts fr11 (ap7.o pa0_0)
     replace k2 := k2.frame RTExpr.lasts fr11 (ap7.r (i := 0) rfl) (Dj.nil _)
     refine WL.q (q_pick1 rfl rfl) rfl rfl rfl <| WL.mono (l' := [(0, .pointer (some ⟨pb0, 0, none⟩)), (4, .pointer (some ⟨b_1, 0, none⟩)), (5, .pointer (some ⟨b_2, 0, none⟩)), (57, .bool x7.1)]) (S' := St w0 Φ_15 [(b_2, .cells #[.int .i64 x1.1, .string x3.1, u1, .int .i64 s9, .string (⟨#[]⟩ : ByteArray)] 135 (0, 0)), (b_1, .cells #[.int .i64 0, .string (⟨#[]⟩ : ByteArray), .slice none 0 0, .int .i64 0, .string (⟨#[]⟩ : ByteArray)] 135 (0, 0))] [ob u1, [pb0]]) (by exact ⟨rfl, rfl, rfl, rfl, trivial⟩) (fun w1 hw => (hw.sel (js := [1, 0]) rfl).selO (js := [0, 0]) rfl) ?_
     exact K (Φ_15, x7.1, x7.2.i, x7.2.h) ⟨h, k2, h11, ph0_0⟩
    replace h := ite_f h c5
    refine WL.no rfl rfl rfl rfl <| WL.no rfl rfl rfl rfl <| WL.q (q_pick0 rfl rfl) rfl rfl rfl <| WL.mono (l' := [(0, .pointer (some ⟨pb0, 0, none⟩)), (4, .pointer (some ⟨b_1, 0, none⟩)), (5, .pointer (some ⟨b_2, 0, none⟩)), (57, .bool false)]) (S' := St w0 Φ_10 [(b_2, .cells #[.int .i64 x1.1, .string x3.1, u1, .int .i64 s9, .string (⟨#[]⟩ : ByteArray)] 135 (0, 0)), (b_1, .cells #[.int .i64 0, .string (⟨#[]⟩ : ByteArray), .slice none 0 0, .int .i64 0, .string (⟨#[]⟩ : ByteArray)] 135 (0, 0))] [ob u1, [pb0]]) (by exact ⟨rfl, rfl, rfl, rfl, trivial⟩) (fun w1 hw => (hw.sel (js := [0, 0]) rfl).selO (js := [0, 0]) rfl) ?_
    exact K (Φ_10, false, s7, s8) ⟨h, k2, k4, ph0_0⟩
   refine WT.cond rfl (fun c6 => ?_) (fun c6 => ?_)
   ·replace h := ite_t h c6
    refine WT.region <| lq (q_move rfl) rfl ?_
    have rc5 : RC (RI .i64) 1 Φ_6 ([[], [], [], []] : List (List Nat)) [.int .i64 0, .int .i64 1, .int .i64 5, .int .i64 100000] ([0, 1, 5, 100000] : List Int) := RC.cons (c := [.int .i64 0]) (cells := [.int .i64 1, .int .i64 5, .int .i64 100000]) ⟨rfl, rfl⟩ rfl (RC.cons (c := [.int .i64 1]) (cells := [.int .i64 5, .int .i64 100000]) ⟨rfl, rfl⟩ rfl (RC.cons (c := [.int .i64 5]) (cells := [.int .i64 100000]) ⟨rfl, rfl⟩ rfl (RC.cons (c := [.int .i64 100000]) (cells := []) ⟨rfl, rfl⟩ rfl (RC.nil _ _ _))))
    refine le' (e_lit (vs := [(0, .int .i64 0), (1, .int .i64 1), (2, .int .i64 5), (3, .int .i64 100000)]) (C := #[.int .i64 0, .int .i64 1, .int .i64 5, .int .i64 100000]) RI.lasts Sl_41 Zr_3 rfl rfl rfl rfl (fill_made MC_3_4 (fill_cons (cells := [.int .i64 0, .int .i64 0, .int .i64 0, .int .i64 0]) (c := [.int .i64 0]) (C' := [.int .i64 0, .int .i64 0, .int .i64 0, .int .i64 0]) rfl rfl rfl rfl rfl (fill_cons (cells := [.int .i64 0, .int .i64 0, .int .i64 0, .int .i64 0]) (c := [.int .i64 1]) (C' := [.int .i64 0, .int .i64 1, .int .i64 0, .int .i64 0]) rfl rfl rfl rfl rfl (fill_cons (cells := [.int .i64 0, .int .i64 1, .int .i64 0, .int .i64 0]) (c := [.int .i64 5]) (C' := [.int .i64 0, .int .i64 1, .int .i64 5, .int .i64 0]) rfl rfl rfl rfl rfl (fill_cons (cells := [.int .i64 0, .int .i64 1, .int .i64 5, .int .i64 0]) (c := [.int .i64 100000]) (C' := [.int .i64 0, .int .i64 1, .int .i64 5, .int .i64 100000]) rfl rfl rfl rfl rfl (fill_nil)))))) rfl rc5 rfl (by simpa using Kw.nil)) rfl (fun v12 Φ_16 D6 q12 => ?_)
    obtain ⟨fr12, h12⟩ := q12
    replace h12 : OSl (RI .i64) 3 1 Φ_16 [] v12 ([0, 1, 5, 100000] : List Int) := by simpa using h12
    replace ph0_0 := ph0_0.frame RI.lasts fr12 (Dj.empty _)
    replace k2 := k2.frame RTExpr.lasts fr12 (Dj.empty _) (Dj.empty _)
    replace k3 := fr12 _ _ (by simp) k3
    obtain ⟨x8, hx8, h⟩ := bind_some h
    refine lc (k_call (js := [2]) (R := [ob v12, ob u1]) Fun_113 rfl rfl (fun w1 hw ap hl => m_s_l1Int_ok hw.fro N (⟨p0.b, s5, s6⟩ : Tl1Cur) ([0, 1, 5, 100000] : List Int) ph0_0 k3 h12.rsl (ap.o pa0_0) (Dj.app (ap.r (i := 0) rfl) (Dj.nil _)) ap.nd hl hx8)) rfl (fun v13 Φ_17 F7 q13 => ?_)
    obtain ⟨ap8, fr13, rfl, rfl, e7, h13⟩ := q13
    replace ph0_0 := ph0_0.frame RI.lasts fr13 (ap8.o pa0_0)
    replace k2 := k2.frame RTExpr.lasts fr13 (ap8.r (i := 1) rfl) (Dj.nil _)
    refine lq (q_fieldAddr Fld_135_3 rfl) rfl <| ls (s_store (i := 0) (vs := [.int .i64 x8.1]) (C' := [.int .i64 x1.1, .string x3.1, u1, .int .i64 x8.1, .string (⟨#[]⟩ : ByteArray)]) (O' := [(b_2, .cells #[.int .i64 x1.1, .string x3.1, u1, .int .i64 x8.1, .string (⟨#[]⟩ : ByteArray)] 135 (0, 0)), (b_1, .cells #[.int .i64 0, .string (⟨#[]⟩ : ByteArray), .slice none 0 0, .int .i64 0, .string (⟨#[]⟩ : ByteArray)] 135 (0, 0))]) Sz_3 rfl rfl rfl rfl rfl rfl ⟨rfl, trivial⟩ rfl rfl) rfl ?_
    refine WL.nil <| WT.mono (l' := [(0, .pointer (some ⟨pb0, 0, none⟩)), (4, .pointer (some ⟨b_1, 0, none⟩)), (5, .pointer (some ⟨b_2, 0, none⟩))]) (S' := St w0 Φ_17 [(b_2, .cells #[.int .i64 x1.1, .string x3.1, u1, .int .i64 x8.1, .string (⟨#[]⟩ : ByteArray)] 135 (0, 0)), (b_1, .cells #[.int .i64 0, .string (⟨#[]⟩ : ByteArray), .slice none 0 0, .int .i64 0, .string (⟨#[]⟩ : ByteArray)] 135 (0, 0))] [ob u1, [pb0]]) ⟨rfl, rfl, rfl, trivial⟩ (fun w1 hw => (hw.sel (js := [2, 0]) rfl).selO (js := [0, 0]) rfl) ?_
    exact K (Φ_17, x8.2.i, x8.2.h, x8.1) ⟨h, k2, h13, ph0_0⟩
   replace h := ite_f h c6
   refine WT.skip <| WT.mono (l' := [(0, .pointer (some ⟨pb0, 0, none⟩)), (4, .pointer (some ⟨b_1, 0, none⟩)), (5, .pointer (some ⟨b_2, 0, none⟩))]) (S' := St w0 Φ_6 [(b_2, .cells #[.int .i64 x1.1, .string x3.1, u1, .int .i64 0, .string (⟨#[]⟩ : ByteArray)] 135 (0, 0)), (b_1, .cells #[.int .i64 0, .string (⟨#[]⟩ : ByteArray), .slice none 0 0, .int .i64 0, .string (⟨#[]⟩ : ByteArray)] 135 (0, 0))] [ob u1, [pb0]]) ⟨rfl, rfl, rfl, trivial⟩ (fun w1 hw => (hw.sel (js := [0, 0]) rfl).selO (js := [0, 0]) rfl) ?_
   exact K (Φ_6, s5, s6, 0) ⟨h, k2, k3, ph0_0⟩
  refine WT.cond rfl (fun c7 => ?_) (fun c7 => ?_)
  ·replace h := ite_t h c7
   refine WT.region <| lq (q_assign rfl) rfl <| WL.nil <| WT.mono (l' := [(0, .pointer (some ⟨pb0, 0, none⟩)), (4, .pointer (some ⟨b_1, 0, none⟩)), (5, .pointer (some ⟨b_2, 0, none⟩)), (6, .int .i64 2)]) (S' := St w0 Φ_5 [(b_2, .cells #[.int .i64 x1.1, .string x3.1, .slice none 0 0, .int .i64 0, .string (⟨#[]⟩ : ByteArray)] 135 (0, 0)), (b_1, .cells #[.int .i64 0, .string (⟨#[]⟩ : ByteArray), .slice none 0 0, .int .i64 0, .string (⟨#[]⟩ : ByteArray)] 135 (0, 0))] [[pb0]]) ⟨rfl, rfl, rfl, rfl, trivial⟩ (fun w1 hw => (hw.sel (js := [0]) rfl).selO (js := [0, 0]) rfl) ?_
   exact K (2) h
  replace h := ite_f h c7
  refine WT.skip <| WT.mono (l' := [(0, .pointer (some ⟨pb0, 0, none⟩)), (4, .pointer (some ⟨b_1, 0, none⟩)), (5, .pointer (some ⟨b_2, 0, none⟩)), (6, .int .i64 1)]) (S' := St w0 Φ_5 [(b_2, .cells #[.int .i64 x1.1, .string x3.1, .slice none 0 0, .int .i64 0, .string (⟨#[]⟩ : ByteArray)] 135 (0, 0)), (b_1, .cells #[.int .i64 0, .string (⟨#[]⟩ : ByteArray), .slice none 0 0, .int .i64 0, .string (⟨#[]⟩ : ByteArray)] 135 (0, 0))] [[pb0]]) ⟨rfl, rfl, rfl, rfl, trivial⟩ (fun w1 hw => (hw.sel (js := [0]) rfl).selO (js := [0, 0]) rfl) ?_
  exact K (1) h
 refine WT.cond rfl (fun c8 => ?_) (fun c8 => ?_)
 ·replace h := ite_t h c8
  refine WT.skip <| WT.mono (l' := [(0, .pointer (some ⟨pb0, 0, none⟩)), (4, .pointer (some ⟨b_1, 0, none⟩)), (5, .pointer (some ⟨b_2, 0, none⟩)), (21, .bool (decide (x1.1 = 5)))]) (S' := St w0 Φ_2 [(b_2, .cells #[.int .i64 x1.1, .string (⟨#[]⟩ : ByteArray), .slice none 0 0, .int .i64 0, .string (⟨#[]⟩ : ByteArray)] 135 (0, 0)), (b_1, .cells #[.int .i64 0, .string (⟨#[]⟩ : ByteArray), .slice none 0 0, .int .i64 0, .string (⟨#[]⟩ : ByteArray)] 135 (0, 0))] [[pb0]]) ⟨rfl, rfl, rfl, rfl, trivial⟩ (fun w1 hw => (hw.sel (js := [0]) rfl).selO (js := [0, 0]) rfl) ?_
  exact K (decide (x1.1 = 5)) h
 replace h := ite_f h c8
 refine WT.region <| lq (q_eql rfl rfl) rfl <| lq (q_assign rfl) rfl <| WL.nil <| WT.mono (l' := [(0, .pointer (some ⟨pb0, 0, none⟩)), (4, .pointer (some ⟨b_1, 0, none⟩)), (5, .pointer (some ⟨b_2, 0, none⟩)), (21, .bool (decide (x1.1 = 6)))]) (S' := St w0 Φ_2 [(b_2, .cells #[.int .i64 x1.1, .string (⟨#[]⟩ : ByteArray), .slice none 0 0, .int .i64 0, .string (⟨#[]⟩ : ByteArray)] 135 (0, 0)), (b_1, .cells #[.int .i64 0, .string (⟨#[]⟩ : ByteArray), .slice none 0 0, .int .i64 0, .string (⟨#[]⟩ : ByteArray)] 135 (0, 0))] [[pb0]]) ⟨rfl, rfl, rfl, rfl, trivial⟩ (fun w1 hw => (hw.sel (js := [0]) rfl).selO (js := [0, 0]) rfl) ?_
 exact K (decide (x1.1 = 6)) h
theorem m_s_PosCount_ok {Φ : Hp} {w : World} (hΦ : In Φ w) (N : Nat) (p0 : TRule) {pv0_0 : Value} {pG0_0 : List Nat} {pv0_1 : Value} {pG0_1 : List Nat} {pv0_2 : Value} {pG0_2 : List Nat} (ph0_0 : RSl RTPat 3 Φ pG0_0 pv0_0 p0.Pats) (ph0_1 : RSl RTCond 11 Φ pG0_1 pv0_1 p0.Conds) (ph0_2 : RSl RTAct 5 Φ pG0_2 pv0_2 p0.Acts) {r : Int} (h : m_s_PosCount N p0 = some r) :
  Calls Tryz.prog 119 [.agg [.string p0.Name, .int .i64 p0.Sal, pv0_0, pv0_1, pv0_2].toArray].toArray w (Post (.int .i64 r) w) := by
 refine enter Tryz.func119 rfl Tryz.ntmps119 rfl (St.start0 hΦ) ?_
 generalize hb0 : (⟨w, [], Φ⟩ : Base) = w0
 unfold m_s_PosCount at h
 refine WT.seq <| WT.region ?_
 refine ln (n_box (C := #[.string p0.Name, .int .i64 p0.Sal, pv0_0, pv0_1, pv0_2]) rfl rfl) rfl (fun b_1 => ?_)
 refine lq (q_assign rfl) rfl <| WL.nil <| WT.seq <| WT.region <| lq (q_assign rfl) rfl <| WL.nil <| WT.seq <| WT.seq <| WT.region <| lq (q_assign rfl) rfl <| WL.nil <| WT.block <| WT.loop <| WT.mono (l' := [(1, .pointer (some ⟨b_1, 0, none⟩)), (3, .int .i64 0), (4, .int .i64 0)]) (S' := St w0 Φ [(b_1, .cells #[.string p0.Name, .int .i64 p0.Sal, pv0_0, pv0_1, pv0_2] 49 (0, 0))] []) ⟨rfl, rfl, rfl, trivial⟩ (fun w1 hw => (hw.sel (js := []) rfl).selO (js := [0]) rfl) ?_
 refine loop_ind (σ := Int × Int) (fun s => [(1, .pointer (some ⟨b_1, 0, none⟩)), (3, .int .i64 s.1), (4, .int .i64 s.2)]) (fun s => St w0 Φ [(b_1, .cells #[.string p0.Name, .int .i64 p0.Sal, pv0_0, pv0_1, pv0_2] 49 (0, 0))] []) (fun m s => m_s_PosCount_l1 N p0 m s.1 s.2 = some r) (fun s hm => none_ne (show (none : Option (Int)) = some r from hm)) (fun n1 ih1 s hm => ?_) N (0, 0) h
 obtain ⟨s1, s2⟩ := s
 have h : m_s_PosCount_l1 N p0 (n1 + 1) s1 s2 = some r := hm
 show WT _ _ [(1, .pointer (some ⟨b_1, 0, none⟩)), (3, .int .i64 s1), (4, .int .i64 s2)] (St w0 Φ [(b_1, .cells #[.string p0.Name, .int .i64 p0.Sal, pv0_0, pv0_1, pv0_2] 49 (0, 0))] [])
 unfold m_s_PosCount_l1 at h
 refine WT.seq <| WT.seq <| WT.region <| lq (q_move rfl) rfl <| lq (q_fieldAddr Fld_49_2 rfl) rfl <| lq (q_load1 T1_45 rfl (fun w1 hw => hw.rgO (i := 0) rfl 2 1 [pv0_0] rfl)) rfl <| lq (q_lenR Sl_45 rfl rfl ph0_0) rfl <| lq (q_lss rfl rfl) rfl <| WL.nil ?_
 refine WT.cond rfl (fun c1 => ?_) (fun c1 => ?_)
 ·replace h := ite_t h c1
  refine WT.skip <| WT.seq <| WT.block <| WT.seq <| WT.region <| lq (q_fieldAddr Fld_49_2 rfl) rfl <| lq (q_load1 T1_45 rfl (fun w1 hw => hw.rgO (i := 0) rfl 2 1 [pv0_0] rfl)) rfl <| lq (q_move rfl) rfl ?_
  obtain ⟨x1, hx1, h⟩ := bind_some h
  obtain ⟨cs1, F1, -, g1, hb1, hs1, r1⟩ := ph0_0.el (idx_some hx1).2.2
  obtain ⟨v1, G1, rfl, hq1, h1⟩ := r1
  obtain rfl := hq1.symm
  refine lq (q_indexAddr Sl_45 rfl rfl ph0_0 hx1) rfl <| lq (q_fieldAddr Fld_114_2 rfl) rfl <| lq (q_load1 T1_4 rfl (fun w1 hw => (g1.of_eq 2 1 rfl rfl : rg _ _ _ [.bool x1.Not]).rangeAt hw.fro)) rfl <| lq (q_not rfl) rfl <| WL.nil ?_
  refine WT.cond rfl (fun c2 => ?_) (fun c2 => ?_)
  ·replace h := ite_t h c2
   refine WT.region <| lq (q_move rfl) rfl <| lq (q_add rfl rfl) rfl <| lq (q_assign rfl) rfl <| WL.nil <| WT.inBlock <| WT.region <| lq (q_move rfl) rfl <| lq (q_add rfl rfl) rfl <| lq (q_assign rfl) rfl <| WL.nil ?_
   refine WT.inLoop (WT.mono (l' := [(1, .pointer (some ⟨b_1, 0, none⟩)), (3, .int .i64 (IntKind.i64.wrap (s1 + 1))), (4, .int .i64 (IntKind.i64.wrap (s2 + 1)))]) (S' := St w0 Φ [(b_1, .cells #[.string p0.Name, .int .i64 p0.Sal, pv0_0, pv0_1, pv0_2] 49 (0, 0))] []) ⟨rfl, rfl, rfl, trivial⟩ (fun w1 hw => (hw.sel (js := []) rfl).selO (js := [0]) rfl) ?_)
   exact ih1 (IntKind.i64.wrap (s1 + 1), IntKind.i64.wrap (s2 + 1)) h
  replace h := ite_f h c2
  refine WT.skip <| WT.inBlock <| WT.region <| lq (q_move rfl) rfl <| lq (q_add rfl rfl) rfl <| lq (q_assign rfl) rfl <| WL.nil ?_
  refine WT.inLoop (WT.mono (l' := [(1, .pointer (some ⟨b_1, 0, none⟩)), (3, .int .i64 s1), (4, .int .i64 (IntKind.i64.wrap (s2 + 1)))]) (S' := St w0 Φ [(b_1, .cells #[.string p0.Name, .int .i64 p0.Sal, pv0_0, pv0_1, pv0_2] 49 (0, 0))] []) ⟨rfl, rfl, rfl, trivial⟩ (fun w1 hw => (hw.sel (js := []) rfl).selO (js := [0]) rfl) ?_)
  exact ih1 (s1, IntKind.i64.wrap (s2 + 1)) h
 replace h := ite_f h c1
 refine WT.exit rfl <| WT.seq <| WT.region <| lq (q_move rfl) rfl <| lq (q_assign rfl) rfl <| WL.nil ?_
 refine WT.ret Tryz.func119 (resOk.one rfl) (fun w1 hw => ?_)
 subst hb0
 cases h
 exact post_of_St hw
theorem m_s_l9Draw_ok {Φ : Hp} {w : World} (hΦ : In Φ w) (N : Nat) (p0 : Tl1Cur) (p1 : ByteArray) {pv0_0 : Value} {pG0_0 : List Nat} {pb0 : Nat} (ph0_0 : RSl (RI .u8) 1 Φ pG0_0 pv0_0 p0.b) (pp0 : Φ pb0 = some (.cells #[pv0_0, .int .i64 p0.i, .int .i64 p0.h] 159 (0, 0))) (pd0_0 : Dj pG0_0 [[pb0]].flatten) (hB : [[pb0]].flatten.Nodup) (hlt : ∀ k ∈ [[pb0]].flatten, k < w.heap.size) {r : TRule × Tl1Cur} (h : m_s_l9Draw N p0 p1 = some r) :
  Calls Tryz.prog 56 [.pointer (some ⟨pb0, 0, none⟩), .string p1].toArray w (PostG Φ w [[pb0]].flatten (fun Φ' Fs v => ∃ (sr_0_0 : Value) (Dr_0_0 : List Nat) (sr_0_1 : Value) (sr_0_2 : Value) (Dr_0_2 : List Nat), v = .agg [.string r.1.Name, .int .i64 r.1.Sal, sr_0_0, sr_0_1, sr_0_2].toArray ∧ Fs = [ob sr_0_0, Dr_0_0, ob sr_0_1, ob sr_0_2, Dr_0_2, [pb0]] ∧ OSl OTPat 114 3 Φ' Dr_0_0 sr_0_0 r.1.Pats ∧ OSl RTCond 128 11 Φ' [] sr_0_1 r.1.Conds ∧ OSl OTAct 135 5 Φ' Dr_0_2 sr_0_2 r.1.Acts ∧ r.2.b = p0.b ∧ Φ' pb0 = some (.cells #[pv0_0, .int .i64 r.2.i, .int .i64 r.2.h] 159 (0, 0)))) := by
 refine enter Tryz.func56 rfl Tryz.ntmps56 rfl (St.start hΦ [[pb0]] hB hlt) ?_
 have pa0_0 : Old ⟨w, [[pb0]].flatten, Φ⟩ pG0_0 := Old.mk hΦ ph0_0.kn pd0_0
 revert pa0_0
 generalize hb0 : (⟨w, [[pb0]].flatten, Φ⟩ : Base) = w0
 intro pa0_0
 unfold m_s_l9Draw at h
 refine WT.seq <| WT.region ?_
 refine ln (n_alloc (C := #[.string (⟨#[]⟩ : ByteArray), .int .i64 0, .slice none 0 0, .slice none 0 0, .slice none 0 0]) Zr_49 rfl) rfl (fun b_1 => ?_)
 refine WL.nil <| WT.seq <| WT.region <| lq (q_move rfl) rfl <| lq (q_move rfl) rfl ?_
 have rc1 : RC (RI .i64) 1 Φ ([[], [], [], [], []] : List (List Nat)) [.int .i64 0, .int .i64 0, .int .i64 5, .int .i64 (-5), .int .i64 100] ([0, 0, 5, (-5), 100] : List Int) := RC.cons (c := [.int .i64 0]) (cells := [.int .i64 0, .int .i64 5, .int .i64 (-5), .int .i64 100]) ⟨rfl, rfl⟩ rfl (RC.cons (c := [.int .i64 0]) (cells := [.int .i64 5, .int .i64 (-5), .int .i64 100]) ⟨rfl, rfl⟩ rfl (RC.cons (c := [.int .i64 5]) (cells := [.int .i64 (-5), .int .i64 100]) ⟨rfl, rfl⟩ rfl (RC.cons (c := [.int .i64 (-5)]) (cells := [.int .i64 100]) ⟨rfl, rfl⟩ rfl (RC.cons (c := [.int .i64 100]) (cells := []) ⟨rfl, rfl⟩ rfl (RC.nil _ _ _)))))
 refine le' (e_lit (vs := [(0, .int .i64 0), (1, .int .i64 0), (2, .int .i64 5), (3, .int .i64 (-5)), (4, .int .i64 100)]) (C := #[.int .i64 0, .int .i64 0, .int .i64 5, .int .i64 (-5), .int .i64 100]) RI.lasts Sl_41 Zr_3 rfl rfl rfl rfl (fill_made MC_3_5 (fill_cons (cells := [.int .i64 0, .int .i64 0, .int .i64 0, .int .i64 0, .int .i64 0]) (c := [.int .i64 0]) (C' := [.int .i64 0, .int .i64 0, .int .i64 0, .int .i64 0, .int .i64 0]) rfl rfl rfl rfl rfl (fill_cons (cells := [.int .i64 0, .int .i64 0, .int .i64 0, .int .i64 0, .int .i64 0]) (c := [.int .i64 0]) (C' := [.int .i64 0, .int .i64 0, .int .i64 0, .int .i64 0, .int .i64 0]) rfl rfl rfl rfl rfl (fill_cons (cells := [.int .i64 0, .int .i64 0, .int .i64 0, .int .i64 0, .int .i64 0]) (c := [.int .i64 5]) (C' := [.int .i64 0, .int .i64 0, .int .i64 5, .int .i64 0, .int .i64 0]) rfl rfl rfl rfl rfl (fill_cons (cells := [.int .i64 0, .int .i64 0, .int .i64 5, .int .i64 0, .int .i64 0]) (c := [.int .i64 (-5)]) (C' := [.int .i64 0, .int .i64 0, .int .i64 5, .int .i64 (-5), .int .i64 0]) rfl rfl rfl rfl rfl (fill_cons (cells := [.int .i64 0, .int .i64 0, .int .i64 5, .int .i64 (-5), .int .i64 0]) (c := [.int .i64 100]) (C' := [.int .i64 0, .int .i64 0, .int .i64 5, .int .i64 (-5), .int .i64 100]) rfl rfl rfl rfl rfl (fill_nil))))))) rfl rc1 rfl (by simpa using Kw.nil)) rfl (fun v1 Φ_1 D1 q1 => ?_)
 obtain ⟨fr1, h1⟩ := q1
 replace h1 : OSl (RI .i64) 3 1 Φ_1 [] v1 ([0, 0, 5, (-5), 100] : List Int) := by simpa using h1
 replace ph0_0 := ph0_0.frame RI.lasts fr1 (Dj.empty _)
 replace pp0 := fr1 _ _ (by simp) pp0
 obtain ⟨x1, hx1, h⟩ := bind_some h
 refine lc (k_call (js := [1]) (R := [ob v1]) Fun_113 rfl rfl (fun w1 hw ap hl => m_s_l1Int_ok hw.fro N p0 ([0, 0, 5, (-5), 100] : List Int) ph0_0 pp0 h1.rsl (ap.o pa0_0) (Dj.app (ap.r (i := 0) rfl) (Dj.nil _)) ap.nd hl hx1)) rfl (fun v2 Φ_2 F1 q2 => ?_)
 obtain ⟨ap1, fr2, rfl, rfl, e1, h2⟩ := q2
 replace ph0_0 := ph0_0.frame RI.lasts fr2 (ap1.o pa0_0)
 refine lq (q_build (vs := [(0, .string p1), (1, .int .i64 x1.1)]) (C := #[.string p1, .int .i64 x1.1, .slice none 0 0, .slice none 0 0, .slice none 0 0]) Pl_49 Zr_49 rfl (fill_cons (cells := [.string ⟨#[]⟩, .int .i64 0, .slice none 0 0, .slice none 0 0, .slice none 0 0]) (c := [.string p1]) (C' := [.string p1, .int .i64 0, .slice none 0 0, .slice none 0 0, .slice none 0 0]) rfl rfl rfl rfl rfl (fill_cons (cells := [.string p1, .int .i64 0, .slice none 0 0, .slice none 0 0, .slice none 0 0]) (c := [.int .i64 x1.1]) (C' := [.string p1, .int .i64 x1.1, .slice none 0 0, .slice none 0 0, .slice none 0 0]) rfl rfl rfl rfl rfl (fill_nil)))) rfl ?_
 refine ln (n_alloc (C := #[.string (⟨#[]⟩ : ByteArray), .int .i64 0, .slice none 0 0, .slice none 0 0, .slice none 0 0]) Zr_49 rfl) rfl (fun b_2 => ?_)
 refine ls (s_store (i := 0) (vs := [.string p1, .int .i64 x1.1, .slice none 0 0, .slice none 0 0, .slice none 0 0]) (C' := [.string p1, .int .i64 x1.1, .slice none 0 0, .slice none 0 0, .slice none 0 0]) (O' := [(b_2, .cells #[.string p1, .int .i64 x1.1, .slice none 0 0, .slice none 0 0, .slice none 0 0] 49 (0, 0)), (b_1, .cells #[.string (⟨#[]⟩ : ByteArray), .int .i64 0, .slice none 0 0, .slice none 0 0, .slice none 0 0] 49 (0, 0))]) Sz_49 rfl rfl rfl rfl rfl rfl ⟨rfl, rfl, rfl, rfl, rfl, trivial⟩ rfl rfl) rfl ?_
 refine WL.nil <| WT.seq <| WT.seq <| WT.region <| lq (q_move rfl) rfl ?_
 obtain ⟨x2, hx2, h⟩ := bind_some h
 refine lc (k_call (js := [0]) (R := [ob v1]) Fun_59 rfl rfl (fun w1 hw ap hl => m_s_l1Below_ok hw.fro N (⟨p0.b, x1.2.i, x1.2.h⟩ : Tl1Cur) 3 ph0_0 h2 (ap.o pa0_0) ap.nd hl hx2)) rfl (fun v3 Φ_3 F2 q3 => ?_)
 obtain ⟨ap2, fr3, rfl, rfl, e2, h3⟩ := q3
 replace ph0_0 := ph0_0.frame RI.lasts fr3 (ap2.o pa0_0)
 refine lq (q_add rfl rfl) rfl <| lq (q_assign rfl) rfl <| WL.nil <| WT.block <| WT.loop <| WT.conv (S' := St w0 Φ_3 [(b_2, .cells #[.string p1, .int .i64 x1.1, .slice none 0 0, .slice none 0 0, .slice none 0 0] 49 (0, 0)), (b_1, .cells #[.string (⟨#[]⟩ : ByteArray), .int .i64 0, .slice none 0 0, .slice none 0 0, .slice none 0 0] 49 (0, 0))] (ob (.slice none 0 0) :: [[pb0], ob v1])) (fun w1 hw => hw.addNil) <| WT.conv (S' := St w0 Φ_3 [(b_2, .cells #[.string p1, .int .i64 x1.1, .slice none 0 0, .slice none 0 0, .slice none 0 0] 49 (0, 0)), (b_1, .cells #[.string (⟨#[]⟩ : ByteArray), .int .i64 0, .slice none 0 0, .slice none 0 0, .slice none 0 0] 49 (0, 0))] ([] :: [ob (.slice none 0 0), [pb0], ob v1])) (fun w1 hw => hw.addNil) ?_
 have k1 := OSl.nil OTPat 114 3 Φ_3
 refine WT.mono (l' := [(0, .pointer (some ⟨pb0, 0, none⟩)), (4, .pointer (some ⟨b_1, 0, none⟩)), (5, .pointer (some ⟨b_2, 0, none⟩)), (6, .int .i64 (IntKind.i64.wrap (1 + x2.1)))]) (S' := St w0 Φ_3 [(b_2, .cells #[.string p1, .int .i64 x1.1, (.slice none 0 0), .slice none 0 0, .slice none 0 0] 49 (0, 0)), (b_1, .cells #[.string (⟨#[]⟩ : ByteArray), .int .i64 0, .slice none 0 0, .slice none 0 0, .slice none 0 0] 49 (0, 0))] [[], ob (.slice none 0 0), [pb0]]) ⟨rfl, rfl, rfl, rfl, trivial⟩ (fun w1 hw => (hw.sel (js := [0, 0, 0]) rfl).selO (js := [0, 0]) rfl) ?_
 refine loop_ind (σ := Hp × (List TPat) × Value × List Nat × Int × Int × Int) (fun s => [(0, .pointer (some ⟨pb0, 0, none⟩)), (4, .pointer (some ⟨b_1, 0, none⟩)), (5, .pointer (some ⟨b_2, 0, none⟩)), (6, .int .i64 s.2.2.2.2.1)]) (fun s => St w0 s.1 [(b_2, .cells #[.string p1, .int .i64 x1.1, s.2.2.1, .slice none 0 0, .slice none 0 0] 49 (0, 0)), (b_1, .cells #[.string (⟨#[]⟩ : ByteArray), .int .i64 0, .slice none 0 0, .slice none 0 0, .slice none 0 0] 49 (0, 0))] [s.2.2.2.1, ob s.2.2.1, [pb0]]) (fun m s => m_s_l9Draw_l1 N p0 p1 x1 m s.2.1 s.2.2.2.2.1 s.2.2.2.2.2.1 s.2.2.2.2.2.2 = some r ∧ (OSl OTPat 114 3 s.1 s.2.2.2.1 s.2.2.1 s.2.1) ∧ (s.1 pb0 = some (.cells #[pv0_0, .int .i64 s.2.2.2.2.2.1, .int .i64 s.2.2.2.2.2.2] 159 (0, 0))) ∧ (RSl (RI .u8) 1 s.1 pG0_0 pv0_0 p0.b)) (fun s hm => none_ne (show (none : Option (TRule × Tl1Cur)) = some r from hm.1)) (fun n1 ih1 s hm => ?_) N (Φ_3, ([] : List TPat), (.slice none 0 0), [], IntKind.i64.wrap (1 + x2.1), x2.2.i, x2.2.h) ⟨h, k1, h3, ph0_0⟩
 obtain ⟨Φ_4, s1, u1, D2, s2, s3, s4⟩ := s
 obtain ⟨h, k2, k3, ph0_0⟩ := hm
 replace h : m_s_l9Draw_l1 N p0 p1 x1 (n1 + 1) s1 s2 s3 s4 = some r := h
 replace k2 : OSl OTPat 114 3 Φ_4 D2 u1 s1 := k2
 replace k3 : Φ_4 pb0 = some (.cells #[pv0_0, .int .i64 s3, .int .i64 s4] 159 (0, 0)) := k3
 replace ph0_0 : RSl (RI .u8) 1 Φ_4 pG0_0 pv0_0 p0.b := ph0_0
 show WT _ _ [(0, .pointer (some ⟨pb0, 0, none⟩)), (4, .pointer (some ⟨b_1, 0, none⟩)), (5, .pointer (some ⟨b_2, 0, none⟩)), (6, .int .i64 s2)] (St w0 Φ_4 [(b_2, .cells #[.string p1, .int .i64 x1.1, u1, .slice none 0 0, .slice none 0 0] 49 (0, 0)), (b_1, .cells #[.string (⟨#[]⟩ : ByteArray), .int .i64 0, .slice none 0 0, .slice none 0 0, .slice none 0 0] 49 (0, 0))] [D2, ob u1, [pb0]])
 unfold m_s_l9Draw_l1 at h
 refine WT.seq <| WT.seq <| WT.region <| lq (q_move rfl) rfl <| lq (q_gtr rfl rfl) rfl <| WL.nil ?_
 refine WT.cond rfl (fun c1 => ?_) (fun c1 => ?_)
 ·replace h := ite_t h c1
  refine WT.skip <| WT.seq <| WT.block <| WT.mix (Kn Φ_4 [] [(b_2, .cells #[.string p1, .int .i64 x1.1, u1, .slice none 0 0, .slice none 0 0] 49 (0, 0)), (b_1, .cells #[.string (⟨#[]⟩ : ByteArray), .int .i64 0, .slice none 0 0, .slice none 0 0, .slice none 0 0] 49 (0, 0))]) (fun i => match i with | 7 => false | _ => true) mixed (fun _ h => h.drew) <| mq 0 rfl (by kernel_rfl) (fun w1 hw => Kn.of (fun k hk _ _ => by simp at hk) (AllIn.mem ⟨gM 0 rfl, gM 1 rfl, trivial⟩) hw) (q_fieldAddr Fld_49_2 rfl) rfl ?_
  refine mq 1 rfl (by kernel_rfl) (fun w1 hw => Kn.of (fun k hk _ _ => by simp at hk) (AllIn.mem ⟨gM 0 rfl, gM 1 rfl, trivial⟩) hw) (q_load1 T1_45 rfl (fun w1 hw => hw.rgO (i := 0) rfl 2 1 [u1] rfl)) rfl <| mq 2 rfl (by kernel_rfl) (fun w1 hw => Kn.of (fun k hk _ _ => by simp at hk) (AllIn.mem ⟨gM 0 rfl, gM 1 rfl, trivial⟩) hw) (q_move rfl) rfl ?_
  obtain ⟨x3, hx3, h⟩ := bind_some h
  refine WM.one 3 (by kernel_rfl) (mc rfl (fun _ v Φx D w1 hq hw => Kn.of (fun k hk _ _ => by simp at hk) (AllIn.mem ⟨gM 0 rfl, gM 1 rfl, trivial⟩) hw) (k_call (js := [2]) (R := [D2, ob u1]) Fun_114 rfl rfl (fun w1 hw ap hl => m_s_l6Draw_ok hw.fro N (⟨p0.b, s3, s4⟩ : Tl1Cur) false ph0_0 k3 (ap.o pa0_0) ap.nd hl hx3)) rfl (fun v4 Φ_5 F3 q4 => ?_))
  obtain ⟨ap3, fr4, v5, rfl, rfl, h4, e3, h5⟩ := q4
  replace ph0_0 := ph0_0.frame RI.lasts fr4 (ap3.o pa0_0)
  replace k2 := k2.frame OTPat.lasts fr4 (ap3.r (i := 1) rfl) (ap3.r (i := 0) rfl)
  have rc2 : RC OTPat 3 Φ_5 ([(ob v5 ++ [])] : List (List Nat)) [.string x3.1.Kind, v5, .bool x3.1.Not] ([x3.1] : List TPat) := RC.cons (c := [.string x3.1.Kind, v5, .bool x3.1.Not]) (cells := []) ⟨v5, rfl, rfl, h4⟩ rfl (RC.nil _ _ _)
  refine WM.one 4 (by kernel_rfl) (me rfl (fun _ v Φx D w1 hq hw => Kn.of (fun k hk _ _ => by simp at hk) (AllIn.mem ⟨gM 0 rfl, gM 1 rfl, trivial⟩) hw) (e_lit (vs := [(0, .agg [.string x3.1.Kind, v5, .bool x3.1.Not].toArray)]) (C := #[.string x3.1.Kind, v5, .bool x3.1.Not]) OTPat.lasts Sl_45 Zr_114 rfl rfl rfl rfl (fill_made MC_114_1 (fill_cons (cells := [.string ⟨#[]⟩, .slice none 0 0, .bool false]) (c := [.string x3.1.Kind, v5, .bool x3.1.Not]) (C' := [.string x3.1.Kind, v5, .bool x3.1.Not]) rfl rfl rfl rfl rfl (fill_nil))) rfl rc2 rfl (RC.kn OTPat.knows rc2)) rfl (fun v6 Φ_6 D3 q5 => ?_))
  obtain ⟨fr5, h6⟩ := q5
  replace h6 : OSl OTPat 114 3 Φ_6 ((ob v5 ++ [])) v6 ([x3.1] : List TPat) := by simpa [List.append_assoc] using h6
  replace ph0_0 := ph0_0.frame RI.lasts fr5 (Dj.empty _)
  replace k2 := k2.frame OTPat.lasts fr5 (Dj.empty _) (Dj.empty _)
  replace h5 := fr5 _ _ (by simp) h5
  refine WM.conv (S' := St w0 Φ_6 [(b_2, .cells #[.string p1, .int .i64 x1.1, u1, .slice none 0 0, .slice none 0 0] 49 (0, 0)), (b_1, .cells #[.string (⟨#[]⟩ : ByteArray), .int .i64 0, .slice none 0 0, .slice none 0 0, .slice none 0 0] 49 (0, 0))] [((ob v5 ++ [])), ob v6, [pb0], D2, ob u1]) (fun w1 hw => hw.merge (js := [1]) rfl (SP.eq (by simp [List.append_assoc, ob_nil]))) ?_
  obtain ⟨x4, hx4, h⟩ := bind_some h
  refine WM.one 5 (by kernel_rfl) (me rfl (fun _ v Φx D w1 hq hw => Kn.of (fun k hk _ _ => by simp at hk) (AllIn.mem ⟨gM 0 rfl, gM 1 rfl, trivial⟩) hw) (e_appO OTPat.lasts OTPat.one Sl_45 Ei_114 rfl rfl rfl rfl rfl (js := [4]) (Rr := [((ob v5 ++ [])), ob v6, [pb0], D2]) rfl k2 h6 (fun ap => (ap.r (i := 3) rfl)) (fun ap => (ap.r (i := 0) rfl)) hx4) rfl (fun v7 Φ_7 D4 q6 => ?_))
  obtain ⟨⟨ap4, fr6⟩, h7⟩ := q6
  replace ph0_0 := ph0_0.frame RI.lasts fr6 (ap4.o pa0_0)
  replace h5 := fr6 _ _ ((ap4.r (i := 2) rfl) _ (by simp)) h5
  refine WM.conv (S' := St w0 Φ_7 [(b_2, .cells #[.string p1, .int .i64 x1.1, u1, .slice none 0 0, .slice none 0 0] 49 (0, 0)), (b_1, .cells #[.string (⟨#[]⟩ : ByteArray), .int .i64 0, .slice none 0 0, .slice none 0 0, .slice none 0 0] 49 (0, 0))] [(D2 ++ ((ob v5 ++ []))), ob v7, ob v6, [pb0]]) (fun w1 hw => hw.merge (js := [4, 1]) rfl (SP.eq (by simp))) <| mq 6 rfl (by kernel_rfl) (fun w1 hw => Kn.of (fun k hk _ _ => by simp at hk) (AllIn.mem ⟨gM 0 rfl, gM 1 rfl, trivial⟩) hw) (q_fieldAddr Fld_49_2 rfl) rfl ?_
  refine WM.one 7 (by kernel_rfl) (ms rfl (fun hc => by cases hc) (s_store (i := 0) (vs := [v7]) (C' := [.string p1, .int .i64 x1.1, v7, .slice none 0 0, .slice none 0 0]) (O' := [(b_2, .cells #[.string p1, .int .i64 x1.1, v7, .slice none 0 0, .slice none 0 0] 49 (0, 0)), (b_1, .cells #[.string (⟨#[]⟩ : ByteArray), .int .i64 0, .slice none 0 0, .slice none 0 0, .slice none 0 0] 49 (0, 0))]) Sz_45 rfl rfl rfl (one_cells h7.one) rfl rfl ⟨h7.one, trivial⟩ rfl rfl) rfl ?_)
  refine WM.nil (by kernel_rfl) <| WT.inBlock <| WT.region <| lq (q_move rfl) rfl <| lq (q_sub rfl rfl) rfl <| lq (q_assign rfl) rfl <| WL.nil ?_
  refine WT.inLoop (WT.mono (l' := [(0, .pointer (some ⟨pb0, 0, none⟩)), (4, .pointer (some ⟨b_1, 0, none⟩)), (5, .pointer (some ⟨b_2, 0, none⟩)), (6, .int .i64 (IntKind.i64.wrap (s2 - 1)))]) (S' := St w0 Φ_7 [(b_2, .cells #[.string p1, .int .i64 x1.1, v7, .slice none 0 0, .slice none 0 0] 49 (0, 0)), (b_1, .cells #[.string (⟨#[]⟩ : ByteArray), .int .i64 0, .slice none 0 0, .slice none 0 0, .slice none 0 0] 49 (0, 0))] [(D2 ++ ((ob v5 ++ []))), ob v7, [pb0]]) ⟨rfl, rfl, rfl, rfl, trivial⟩ (fun w1 hw => (hw.sel (js := [0, 0, 1]) rfl).selO (js := [0, 0]) rfl) ?_)
  exact ih1 (Φ_7, x4, v7, (D2 ++ ((ob v5 ++ []))), IntKind.i64.wrap (s2 - 1), x3.2.i, x3.2.h) ⟨h, h7, h5, ph0_0⟩
 replace h := ite_f h c1
 refine WT.exit rfl <| WT.seq <| WT.seq <| WT.region <| lq (q_move rfl) rfl ?_
 obtain ⟨x5, hx5, h⟩ := bind_some h
 refine lc (k_call (js := [2]) (R := [D2, ob u1]) Fun_47 rfl rfl (fun w1 hw ap hl => m_s_l1Once_ok hw.fro N (⟨p0.b, s3, s4⟩ : Tl1Cur) 3 ph0_0 k3 (ap.o pa0_0) ap.nd hl hx5)) rfl (fun v8 Φ_8 F4 q7 => ?_)
 obtain ⟨ap5, fr7, rfl, rfl, e4, h8⟩ := q7
 replace ph0_0 := ph0_0.frame RI.lasts fr7 (ap5.o pa0_0)
 replace k2 := k2.frame OTPat.lasts fr7 (ap5.r (i := 1) rfl) (ap5.r (i := 0) rfl)
 refine WL.nil ?_
 refine cut (σ := Hp × (List TPat) × Value × List Nat × Int × Int) (fun s => [(0, .pointer (some ⟨pb0, 0, none⟩)), (4, .pointer (some ⟨b_1, 0, none⟩)), (5, .pointer (some ⟨b_2, 0, none⟩))]) (fun s => St w0 s.1 [(b_2, .cells #[.string p1, .int .i64 x1.1, s.2.2.1, .slice none 0 0, .slice none 0 0] 49 (0, 0)), (b_1, .cells #[.string (⟨#[]⟩ : ByteArray), .int .i64 0, .slice none 0 0, .slice none 0 0, .slice none 0 0] 49 (0, 0))] [[pb0], s.2.2.2.1, ob s.2.2.1]) (fun s => m_s_l9Draw_j2 N p0 p1 x1 s.2.1 s.2.2.2.2.1 s.2.2.2.2.2 = some r ∧ (OSl OTPat 114 3 s.1 s.2.2.2.1 s.2.2.1 s.2.1) ∧ (s.1 pb0 = some (.cells #[pv0_0, .int .i64 s.2.2.2.2.1, .int .i64 s.2.2.2.2.2] 159 (0, 0))) ∧ (RSl (RI .u8) 1 s.1 pG0_0 pv0_0 p0.b)) (fun s hm => ?_) (fun K => ?_)
 ·clear h
  obtain ⟨Φ_9, s5, u2, D5, s6, s7⟩ := s
  obtain ⟨h, k4, k5, ph0_0⟩ := hm
  replace h : m_s_l9Draw_j2 N p0 p1 x1 s5 s6 s7 = some r := h
  replace k4 : OSl OTPat 114 3 Φ_9 D5 u2 s5 := k4
  replace k5 : Φ_9 pb0 = some (.cells #[pv0_0, .int .i64 s6, .int .i64 s7] 159 (0, 0)) := k5
  replace ph0_0 : RSl (RI .u8) 1 Φ_9 pG0_0 pv0_0 p0.b := ph0_0
  show WT _ _ [(0, .pointer (some ⟨pb0, 0, none⟩)), (4, .pointer (some ⟨b_1, 0, none⟩)), (5, .pointer (some ⟨b_2, 0, none⟩))] (St w0 Φ_9 [(b_2, .cells #[.string p1, .int .i64 x1.1, u2, .slice none 0 0, .slice none 0 0] 49 (0, 0)), (b_1, .cells #[.string (⟨#[]⟩ : ByteArray), .int .i64 0, .slice none 0 0, .slice none 0 0, .slice none 0 0] 49 (0, 0))] [[pb0], D5, ob u2])
  unfold m_s_l9Draw_j2 at h
  refine WT.seq <| WT.region <| lq (q_loadN Tn_49 rfl (fun w1 hw => hw.rgO (i := 0) rfl 0 5 [.string p1, .int .i64 x1.1, u2, .slice none 0 0, .slice none 0 0] rfl) rfl) rfl ?_
  obtain ⟨x6, hx6, h⟩ := bind_some h
  refine lc (k_call (js := []) (R := [[pb0], D5, ob u2]) Fun_115 rfl rfl (fun w1 hw ap hl => m_s_PosVars_ok hw.fro N (⟨p1, x1.1, s5, [], []⟩ : TRule) (k4.rslG OTPat.gives) (RSl.nil _ _ _) (RSl.nil _ _ _)  hx6)) rfl (fun v9 Φ_10 F5 q8 => ?_)
  obtain ⟨ap6, fr8, v10, rfl, rfl, h9⟩ := q8
  replace ph0_0 := ph0_0.frame RI.lasts fr8 (ap6.o pa0_0)
  replace k4 := k4.frame OTPat.lasts fr8 (ap6.r (i := 2) rfl) (ap6.r (i := 1) rfl)
  replace k5 := fr8 _ _ ((ap6.r (i := 0) rfl) _ (by simp)) k5
  refine lq (q_assign rfl) rfl <| WL.nil <| WT.seq <| WT.seq <| WT.region <| lq (q_move rfl) rfl ?_
  obtain ⟨x7, hx7, h⟩ := bind_some h
  refine lc (k_call (js := [1]) (R := [ob v9, D5, ob u2]) Fun_47 rfl rfl (fun w1 hw ap hl => m_s_l1Once_ok hw.fro N (⟨p0.b, s6, s7⟩ : Tl1Cur) 3 ph0_0 k5 (ap.o pa0_0) ap.nd hl hx7)) rfl (fun v11 Φ_11 F6 q9 => ?_)
  obtain ⟨ap7, fr9, rfl, rfl, e5, h10⟩ := q9
  replace ph0_0 := ph0_0.frame RI.lasts fr9 (ap7.o pa0_0)
  replace k4 := k4.frame OTPat.lasts fr9 (ap7.r (i := 2) rfl) (ap7.r (i := 1) rfl)
  replace h9 := h9.frame RS.lasts fr9 (ap7.r (i := 0) rfl) (Dj.nil _)
  refine WL.nil <| WT.conv (S' := St w0 Φ_11 [(b_2, .cells #[.string p1, .int .i64 x1.1, u2, .slice none 0 0, .slice none 0 0] 49 (0, 0)), (b_1, .cells #[.string (⟨#[]⟩ : ByteArray), .int .i64 0, .slice none 0 0, .slice none 0 0, .slice none 0 0] 49 (0, 0))] (ob (.slice none 0 0) :: [[pb0], ob v9, D5, ob u2])) (fun w1 hw => hw.addNil) ?_
  have k6 := OSl.nil RTCond 128 11 Φ_11
  refine cut (σ := Hp × (List TCond) × Value × Int × Int) (fun s => [(0, .pointer (some ⟨pb0, 0, none⟩)), (4, .pointer (some ⟨b_1, 0, none⟩)), (5, .pointer (some ⟨b_2, 0, none⟩)), (7, v9)]) (fun s => St w0 s.1 [(b_2, .cells #[.string p1, .int .i64 x1.1, u2, s.2.2.1, .slice none 0 0] 49 (0, 0)), (b_1, .cells #[.string (⟨#[]⟩ : ByteArray), .int .i64 0, .slice none 0 0, .slice none 0 0, .slice none 0 0] 49 (0, 0))] [ob s.2.2.1, [pb0], ob v9, D5, ob u2]) (fun s => m_s_l9Draw_j3 N p0 p1 x1 s5 x6 s.2.1 s.2.2.2.1 s.2.2.2.2 = some r ∧ (OSl OTPat 114 3 s.1 D5 u2 s5) ∧ (OSl RS 9 1 s.1 [] v9 x6) ∧ (OSl RTCond 128 11 s.1 [] s.2.2.1 s.2.1) ∧ (s.1 pb0 = some (.cells #[pv0_0, .int .i64 s.2.2.2.1, .int .i64 s.2.2.2.2] 159 (0, 0))) ∧ (RSl (RI .u8) 1 s.1 pG0_0 pv0_0 p0.b)) (fun s hm => ?_) (fun K => ?_)
  ·clear h
   obtain ⟨Φ_12, s8, u3, s9, s10⟩ := s
   obtain ⟨h, k4, h9, k7, k8, ph0_0⟩ := hm
   replace h : m_s_l9Draw_j3 N p0 p1 x1 s5 x6 s8 s9 s10 = some r := h
   replace k4 : OSl OTPat 114 3 Φ_12 D5 u2 s5 := k4
   replace h9 : OSl RS 9 1 Φ_12 [] v9 x6 := h9
   replace k7 : OSl RTCond 128 11 Φ_12 [] u3 s8 := k7
   replace k8 : Φ_12 pb0 = some (.cells #[pv0_0, .int .i64 s9, .int .i64 s10] 159 (0, 0)) := k8
   replace ph0_0 : RSl (RI .u8) 1 Φ_12 pG0_0 pv0_0 p0.b := ph0_0
   show WT _ _ [(0, .pointer (some ⟨pb0, 0, none⟩)), (4, .pointer (some ⟨b_1, 0, none⟩)), (5, .pointer (some ⟨b_2, 0, none⟩)), (7, v9)] (St w0 Φ_12 [(b_2, .cells #[.string p1, .int .i64 x1.1, u2, u3, .slice none 0 0] 49 (0, 0)), (b_1, .cells #[.string (⟨#[]⟩ : ByteArray), .int .i64 0, .slice none 0 0, .slice none 0 0, .slice none 0 0] 49 (0, 0))] [ob u3, [pb0], ob v9, D5, ob u2])
   unfold m_s_l9Draw_j3 at h
   refine WT.seq <| WT.seq <| WT.region <| lq (q_move rfl) rfl ?_
   obtain ⟨x8, hx8, h⟩ := bind_some h
   refine lc (k_call (js := [1]) (R := [ob u3, ob v9, D5, ob u2]) Fun_59 rfl rfl (fun w1 hw ap hl => m_s_l1Below_ok hw.fro N (⟨p0.b, s9, s10⟩ : Tl1Cur) 3 ph0_0 k8 (ap.o pa0_0) ap.nd hl hx8)) rfl (fun v12 Φ_13 F7 q10 => ?_)
   obtain ⟨ap8, fr10, rfl, rfl, e6, h11⟩ := q10
   replace ph0_0 := ph0_0.frame RI.lasts fr10 (ap8.o pa0_0)
   replace k4 := k4.frame OTPat.lasts fr10 (ap8.r (i := 3) rfl) (ap8.r (i := 2) rfl)
   replace h9 := h9.frame RS.lasts fr10 (ap8.r (i := 1) rfl) (Dj.nil _)
   replace k7 := k7.frame RTCond.lasts fr10 (ap8.r (i := 0) rfl) (Dj.nil _)
   refine lq (q_add rfl rfl) rfl <| lq (q_assign rfl) rfl <| WL.nil <| WT.block <| WT.loop <| WT.conv (S' := St w0 Φ_13 [(b_2, .cells #[.string p1, .int .i64 x1.1, u2, u3, .slice none 0 0] 49 (0, 0)), (b_1, .cells #[.string (⟨#[]⟩ : ByteArray), .int .i64 0, .slice none 0 0, .slice none 0 0, .slice none 0 0] 49 (0, 0))] (ob (.slice none 0 0) :: [[pb0], ob u3, ob v9, D5, ob u2])) (fun w1 hw => hw.addNil) <| WT.conv (S' := St w0 Φ_13 [(b_2, .cells #[.string p1, .int .i64 x1.1, u2, u3, .slice none 0 0] 49 (0, 0)), (b_1, .cells #[.string (⟨#[]⟩ : ByteArray), .int .i64 0, .slice none 0 0, .slice none 0 0, .slice none 0 0] 49 (0, 0))] ([] :: [ob (.slice none 0 0), [pb0], ob u3, ob v9, D5, ob u2])) (fun w1 hw => hw.addNil) ?_
   have k9 := OSl.nil OTAct 135 5 Φ_13
   refine WT.mono (l' := [(0, .pointer (some ⟨pb0, 0, none⟩)), (4, .pointer (some ⟨b_1, 0, none⟩)), (5, .pointer (some ⟨b_2, 0, none⟩)), (7, v9), (9, .int .i64 (IntKind.i64.wrap (1 + x8.1)))]) (S' := St w0 Φ_13 [(b_2, .cells #[.string p1, .int .i64 x1.1, u2, u3, (.slice none 0 0)] 49 (0, 0)), (b_1, .cells #[.string (⟨#[]⟩ : ByteArray), .int .i64 0, .slice none 0 0, .slice none 0 0, .slice none 0 0] 49 (0, 0))] [[], ob (.slice none 0 0), [pb0], ob u3, ob v9, D5, ob u2]) ⟨rfl, rfl, rfl, rfl, rfl, trivial⟩ (fun w1 hw => (hw.sel (js := [0, 0, 0, 0, 0, 0, 0]) rfl).selO (js := [0, 0]) rfl) ?_
   refine loop_ind (σ := Hp × (List TAct) × Value × List Nat × Int × Int × Int) (fun s => [(0, .pointer (some ⟨pb0, 0, none⟩)), (4, .pointer (some ⟨b_1, 0, none⟩)), (5, .pointer (some ⟨b_2, 0, none⟩)), (7, v9), (9, .int .i64 s.2.2.2.2.1)]) (fun s => St w0 s.1 [(b_2, .cells #[.string p1, .int .i64 x1.1, u2, u3, s.2.2.1] 49 (0, 0)), (b_1, .cells #[.string (⟨#[]⟩ : ByteArray), .int .i64 0, .slice none 0 0, .slice none 0 0, .slice none 0 0] 49 (0, 0))] [s.2.2.2.1, ob s.2.2.1, [pb0], ob u3, ob v9, D5, ob u2]) (fun m s => m_s_l9Draw_l4 N p0 p1 x1 s5 x6 s8 m s.2.1 s.2.2.2.2.1 s.2.2.2.2.2.1 s.2.2.2.2.2.2 = some r ∧ (OSl OTPat 114 3 s.1 D5 u2 s5) ∧ (OSl RS 9 1 s.1 [] v9 x6) ∧ (OSl RTCond 128 11 s.1 [] u3 s8) ∧ (OSl OTAct 135 5 s.1 s.2.2.2.1 s.2.2.1 s.2.1) ∧ (s.1 pb0 = some (.cells #[pv0_0, .int .i64 s.2.2.2.2.2.1, .int .i64 s.2.2.2.2.2.2] 159 (0, 0))) ∧ (RSl (RI .u8) 1 s.1 pG0_0 pv0_0 p0.b)) (fun s hm => none_ne (show (none : Option (TRule × Tl1Cur)) = some r from hm.1)) (fun n4 ih4 s hm => ?_) N (Φ_13, ([] : List TAct), (.slice none 0 0), [], IntKind.i64.wrap (1 + x8.1), x8.2.i, x8.2.h) ⟨h, k4, h9, k7, k9, h11, ph0_0⟩
   obtain ⟨Φ_14, s11, u4, D6, s12, s13, s14⟩ := s
   obtain ⟨h, k4, h9, k7, k10, k11, ph0_0⟩ := hm
   replace h : m_s_l9Draw_l4 N p0 p1 x1 s5 x6 s8 (n4 + 1) s11 s12 s13 s14 = some r := h
   replace k4 : OSl OTPat 114 3 Φ_14 D5 u2 s5 := k4
   replace h9 : OSl RS 9 1 Φ_14 [] v9 x6 := h9
   replace k7 : OSl RTCond 128 11 Φ_14 [] u3 s8 := k7
   replace k10 : OSl OTAct 135 5 Φ_14 D6 u4 s11 := k10
   replace k11 : Φ_14 pb0 = some (.cells #[pv0_0, .int .i64 s13, .int .i64 s14] 159 (0, 0)) := k11
   replace ph0_0 : RSl (RI .u8) 1 Φ_14 pG0_0 pv0_0 p0.b := ph0_0
   show WT _ _ [(0, .pointer (some ⟨pb0, 0, none⟩)), (4, .pointer (some ⟨b_1, 0, none⟩)), (5, .pointer (some ⟨b_2, 0, none⟩)), (7, v9), (9, .int .i64 s12)] (St w0 Φ_14 [(b_2, .cells #[.string p1, .int .i64 x1.1, u2, u3, u4] 49 (0, 0)), (b_1, .cells #[.string (⟨#[]⟩ : ByteArray), .int .i64 0, .slice none 0 0, .slice none 0 0, .slice none 0 0] 49 (0, 0))] [D6, ob u4, [pb0], ob u3, ob v9, D5, ob u2])
   unfold m_s_l9Draw_l4 at h
   refine WT.seq <| WT.seq <| WT.region <| lq (q_move rfl) rfl <| lq (q_gtr rfl rfl) rfl <| WL.nil ?_
   refine WT.cond rfl (fun c2 => ?_) (fun c2 => ?_)
   ·replace h := ite_t h c2
    refine WT.skip <| WT.seq <| WT.block <| WT.seq <| WT.region <| lq (q_move rfl) rfl <| lq (q_loadN Tn_49 rfl (fun w1 hw => hw.rgO (i := 0) rfl 0 5 [.string p1, .int .i64 x1.1, u2, u3, u4] rfl) rfl) rfl ?_
    obtain ⟨x9, hx9, h⟩ := bind_some h
    refine lp (p_call Fun_119 rfl (fun w1 hw => m_s_PosCount_ok hw.fro N (⟨p1, x1.1, s5, s8, s11⟩ : TRule) (k4.rslG OTPat.gives) k7.rsl (k10.rslG OTAct.gives) hx9)) rfl ?_
    obtain ⟨x10, hx10, h⟩ := bind_some h
    refine lc (k_call (js := [2]) (R := [D6, ob u4, ob u3, ob v9, D5, ob u2]) Fun_118 rfl rfl (fun w1 hw ap hl => m_s_l8Draw_ok hw.fro N (⟨p0.b, s13, s14⟩ : Tl1Cur) x9 ph0_0 k11 (ap.o pa0_0) ap.nd hl hx10)) rfl (fun v13 Φ_15 F8 q11 => ?_)
    obtain ⟨ap9, fr11, v14, rfl, rfl, h12, e7, h13⟩ := q11
    replace ph0_0 := ph0_0.frame RI.lasts fr11 (ap9.o pa0_0)
    replace k4 := k4.frame OTPat.lasts fr11 (ap9.r (i := 5) rfl) (ap9.r (i := 4) rfl)
    replace h9 := h9.frame RS.lasts fr11 (ap9.r (i := 3) rfl) (Dj.nil _)
    replace k7 := k7.frame RTCond.lasts fr11 (ap9.r (i := 2) rfl) (Dj.nil _)
    replace k10 := k10.frame OTAct.lasts fr11 (ap9.r (i := 1) rfl) (ap9.r (i := 0) rfl)
    refine ln (n_alloc (C := #[.int .i64 0, .string (⟨#[]⟩ : ByteArray), .slice none 0 0, .int .i64 0, .string (⟨#[]⟩ : ByteArray)]) Zr_135 rfl) rfl (fun b_3 => ?_)
    refine ls (s_store (i := 0) (vs := [.int .i64 x10.1.Kind, .string x10.1.Name, v14, .int .i64 x10.1.N, .string x10.1.Undo]) (C' := [.int .i64 x10.1.Kind, .string x10.1.Name, v14, .int .i64 x10.1.N, .string x10.1.Undo]) (O' := [(b_3, .cells #[.int .i64 x10.1.Kind, .string x10.1.Name, v14, .int .i64 x10.1.N, .string x10.1.Undo] 135 (0, 0)), (b_2, .cells #[.string p1, .int .i64 x1.1, u2, u3, u4] 49 (0, 0)), (b_1, .cells #[.string (⟨#[]⟩ : ByteArray), .int .i64 0, .slice none 0 0, .slice none 0 0, .slice none 0 0] 49 (0, 0))]) Sz_135 rfl rfl rfl rfl rfl rfl ⟨rfl, rfl, h12.one, rfl, rfl, trivial⟩ rfl rfl) rfl ?_
    refine WL.nil <| WT.seq <| WT.seq <| WT.region <| lq (q_assign rfl) rfl <| WL.nil <| WT.block <| WT.loop <| WT.mono (l' := [(0, .pointer (some ⟨pb0, 0, none⟩)), (4, .pointer (some ⟨b_1, 0, none⟩)), (5, .pointer (some ⟨b_2, 0, none⟩)), (7, v9), (9, .int .i64 s12), (10, .pointer (some ⟨b_3, 0, none⟩)), (11, .int .i64 0)]) (S' := St w0 Φ_15 [(b_3, .cells #[.int .i64 x10.1.Kind, .string x10.1.Name, v14, .int .i64 x10.1.N, .string x10.1.Undo] 135 (0, 0)), (b_2, .cells #[.string p1, .int .i64 x1.1, u2, u3, u4] 49 (0, 0)), (b_1, .cells #[.string (⟨#[]⟩ : ByteArray), .int .i64 0, .slice none 0 0, .slice none 0 0, .slice none 0 0] 49 (0, 0))] [ob v14, [pb0], D6, ob u4, ob u3, ob v9, D5, ob u2]) ⟨rfl, rfl, rfl, rfl, rfl, rfl, rfl, trivial⟩ (fun w1 hw => (hw.sel (js := [0, 0, 0, 0, 0, 0, 0, 0]) rfl).selO (js := [0, 0, 0]) rfl) ?_
    refine loop_ind (σ := Hp × (List TExpr) × Int) (fun s => [(0, .pointer (some ⟨pb0, 0, none⟩)), (4, .pointer (some ⟨b_1, 0, none⟩)), (5, .pointer (some ⟨b_2, 0, none⟩)), (7, v9), (9, .int .i64 s12), (10, .pointer (some ⟨b_3, 0, none⟩)), (11, .int .i64 s.2.2)]) (fun s => St w0 s.1 [(b_3, .cells #[.int .i64 x10.1.Kind, .string x10.1.Name, v14, .int .i64 x10.1.N, .string x10.1.Undo] 135 (0, 0)), (b_2, .cells #[.string p1, .int .i64 x1.1, u2, u3, u4] 49 (0, 0)), (b_1, .cells #[.string (⟨#[]⟩ : ByteArray), .int .i64 0, .slice none 0 0, .slice none 0 0, .slice none 0 0] 49 (0, 0))] [ob v14, [pb0], D6, ob u4, ob u3, ob v9, D5, ob u2]) (fun m s => m_s_l9Draw_l5 N x6 s11 s12 (m_s_l9Draw_l4 N p0 p1 x1 s5 x6 s8 n4) x10 m s.2.1 s.2.2 = some r ∧ (OSl OTPat 114 3 s.1 D5 u2 s5) ∧ (OSl RS 9 1 s.1 [] v9 x6) ∧ (OSl RTCond 128 11 s.1 [] u3 s8) ∧ (OSl OTAct 135 5 s.1 D6 u4 s11) ∧ (OSl RTExpr 175 11 s.1 [] v14 s.2.1) ∧ (s.1 pb0 = some (.cells #[pv0_0, .int .i64 x10.2.i, .int .i64 x10.2.h] 159 (0, 0))) ∧ (RSl (RI .u8) 1 s.1 pG0_0 pv0_0 p0.b)) (fun s hm => none_ne (show (none : Option (TRule × Tl1Cur)) = some r from hm.1)) (fun n5 ih5 s hm => ?_) N (Φ_15, x10.1.Args, 0) ⟨h, k4, h9, k7, k10, h12, h13, ph0_0⟩
    obtain ⟨Φ_16, s15, s16⟩ := s
    obtain ⟨h, k4, h9, k7, k10, k12, k13, ph0_0⟩ := hm
    replace h : m_s_l9Draw_l5 N x6 s11 s12 (m_s_l9Draw_l4 N p0 p1 x1 s5 x6 s8 n4) x10 (n5 + 1) s15 s16 = some r := h
    replace k4 : OSl OTPat 114 3 Φ_16 D5 u2 s5 := k4
    replace h9 : OSl RS 9 1 Φ_16 [] v9 x6 := h9
    replace k7 : OSl RTCond 128 11 Φ_16 [] u3 s8 := k7
    replace k10 : OSl OTAct 135 5 Φ_16 D6 u4 s11 := k10
    replace k12 : OSl RTExpr 175 11 Φ_16 [] v14 s15 := k12
    replace k13 : Φ_16 pb0 = some (.cells #[pv0_0, .int .i64 x10.2.i, .int .i64 x10.2.h] 159 (0, 0)) := k13
    replace ph0_0 : RSl (RI .u8) 1 Φ_16 pG0_0 pv0_0 p0.b := ph0_0
    show WT _ _ [(0, .pointer (some ⟨pb0, 0, none⟩)), (4, .pointer (some ⟨b_1, 0, none⟩)), (5, .pointer (some ⟨b_2, 0, none⟩)), (7, v9), (9, .int .i64 s12), (10, .pointer (some ⟨b_3, 0, none⟩)), (11, .int .i64 s16)] (St w0 Φ_16 [(b_3, .cells #[.int .i64 x10.1.Kind, .string x10.1.Name, v14, .int .i64 x10.1.N, .string x10.1.Undo] 135 (0, 0)), (b_2, .cells #[.string p1, .int .i64 x1.1, u2, u3, u4] 49 (0, 0)), (b_1, .cells #[.string (⟨#[]⟩ : ByteArray), .int .i64 0, .slice none 0 0, .slice none 0 0, .slice none 0 0] 49 (0, 0))] [ob v14, [pb0], D6, ob u4, ob u3, ob v9, D5, ob u2])
    unfold m_s_l9Draw_l5 at h
    refine WT.seq <| WT.seq <| WT.region <| lq (q_move rfl) rfl <| lq (q_fieldAddr Fld_135_2 rfl) rfl <| lq (q_load1 T1_133 rfl (fun w1 hw => hw.rgO (i := 0) rfl 2 1 [v14] rfl)) rfl <| lq (q_lenR Sl_133 rfl rfl k12.rsl) rfl <| lq (q_lss rfl rfl) rfl <| WL.nil ?_
    refine WT.cond rfl (fun c3 => ?_) (fun c3 => ?_)
    ·replace h := ite_t h c3
     refine WT.skip <| WT.seq <| WT.block <| WT.seq ?_
     obtain ⟨x11, hx11, h⟩ := bind_some h
     obtain ⟨cs1, F9, h14, r1⟩ := k12.focusF RTExpr.flat hx11
     obtain ⟨rfl, -⟩ := r1
     refine WT.mix (Kn Φ_16 (ob u3 ++ (ob u4 ++ ob v14)) [(b_3, .cells #[.int .i64 x10.1.Kind, .string x10.1.Name, v14, .int .i64 x10.1.N, .string x10.1.Undo] 135 (0, 0)), (b_2, .cells #[.string p1, .int .i64 x1.1, u2, u3, u4] 49 (0, 0)), (b_1, .cells #[.string (⟨#[]⟩ : ByteArray), .int .i64 0, .slice none 0 0, .slice none 0 0, .slice none 0 0] 49 (0, 0))]) (fun i => match i with | 13 => false | _ => true) mixed (fun _ h => h.drew) ?_
     refine mq 0 rfl (by kernel_rfl) (fun w1 hw => Kn.of (fun _ _ _ h => h) (AllIn.mem ⟨gM 0 rfl, gM 1 rfl, gM 2 rfl, trivial⟩) hw) (q_fieldAddr Fld_135_2 rfl) rfl <| mq 1 rfl (by kernel_rfl) (fun w1 hw => Kn.of (fun _ _ _ h => h) (AllIn.mem ⟨gM 0 rfl, gM 1 rfl, gM 2 rfl, trivial⟩) hw) (q_load1 T1_133 rfl (fun w1 hw => hw.rgO (i := 0) rfl 2 1 [v14] rfl)) rfl ?_
     refine mq 2 rfl (by kernel_rfl) (fun w1 hw => Kn.of (fun _ _ _ h => h) (AllIn.mem ⟨gM 0 rfl, gM 1 rfl, gM 2 rfl, trivial⟩) hw) (q_move rfl) rfl <| mq 3 rfl (by kernel_rfl) (fun w1 hw => Kn.of (fun _ _ _ h => h) (AllIn.mem ⟨gM 0 rfl, gM 1 rfl, gM 2 rfl, trivial⟩) hw) (q_fieldAddr Fld_135_2 rfl) rfl ?_
     refine mq 4 rfl (by kernel_rfl) (fun w1 hw => Kn.of (fun _ _ _ h => h) (AllIn.mem ⟨gM 0 rfl, gM 1 rfl, gM 2 rfl, trivial⟩) hw) (q_load1 T1_133 rfl (fun w1 hw => hw.rgO (i := 0) rfl 2 1 [v14] rfl)) rfl <| mq 5 rfl (by kernel_rfl) (fun w1 hw => Kn.of (fun _ _ _ h => h) (AllIn.mem ⟨gM 0 rfl, gM 1 rfl, gM 2 rfl, trivial⟩) hw) (q_move rfl) rfl ?_
     refine mq 6 rfl (by kernel_rfl) (fun w1 hw => Kn.of (fun _ _ _ h => h) (AllIn.mem ⟨gM 0 rfl, gM 1 rfl, gM 2 rfl, trivial⟩) hw) (q_indexAddrH Sl_133 rfl rfl h14 hx11) rfl <| mq 7 rfl (by kernel_rfl) (fun w1 hw => Kn.of (fun _ _ _ h => h) (AllIn.mem ⟨gM 0 rfl, gM 1 rfl, gM 2 rfl, trivial⟩) hw) (q_fieldAddr Fld_175_1 rfl) rfl ?_
     refine mq 8 rfl (by kernel_rfl) (fun w1 hw => Kn.of (fun _ _ _ h => h) (AllIn.mem ⟨gM 0 rfl, gM 1 rfl, gM 2 rfl, trivial⟩) hw) (q_loadN Tn_126 rfl (fun w1 hw => hw.rg (List.mem_append.2 (.inr (List.mem_append.2 (.inr h14.hb)))) (h14.rg.of_eq 1 5 rfl rfl : rg _ _ _ [.int .i64 x11.L.K, .string x11.L.S, .int .i64 x11.L.V.K, .int .i64 x11.L.V.N, .string x11.L.V.S])) rfl) rfl ?_
     refine mq 9 rfl (by kernel_rfl) (fun w1 hw => Kn.of (fun _ _ _ h => h) (AllIn.mem ⟨gM 0 rfl, gM 1 rfl, gM 2 rfl, trivial⟩) hw) (q_move rfl) rfl ?_
     obtain ⟨x12, hx12, h⟩ := bind_some h
     refine WM.one 10 (by kernel_rfl) (mp rfl (fun _ w1 hw => Kn.of (fun _ _ _ h => h) (AllIn.mem ⟨gM 0 rfl, gM 1 rfl, gM 2 rfl, trivial⟩) hw) (p_call Fun_117 rfl (fun w1 hw => m_s_l9Fit_ok hw.fro N x11.L x6 h9.rsl hx12)) rfl ?_)
     refine mqT 11 [12, 13] rfl (by kernel_rfl) (fun w1 hw => Kn.of (fun _ _ _ h => h) (AllIn.mem ⟨gM 0 rfl, gM 1 rfl, gM 2 rfl, trivial⟩) hw) (q_indexAddrH Sl_133 rfl rfl h14 hx11) rfl <| mq 12 rfl (by kernel_rfl) (fun w1 hw => Kn.of (fun _ _ _ h => h) (AllIn.mem ⟨gM 0 rfl, gM 1 rfl, gM 2 rfl, trivial⟩) hw) (q_fieldAddr Fld_175_1 rfl) rfl ?_
     refine WM.one 13 (by kernel_rfl) (mu rfl (fun hc => by cases hc) (u_setH (js := [0]) (Rr := [[pb0], D6, ob u4, ob u3, ob v9, D5, ob u2]) (o := 1) (vs := [.int .i64 x12.K, .string x12.S, .int .i64 x12.V.K, .int .i64 x12.V.N, .string x12.V.S]) (cs' := [.string x11.Op, .int .i64 x12.K, .string x12.S, .int .i64 x12.V.K, .int .i64 x12.V.N, .string x12.V.S, .int .i64 x11.R.K, .string x11.R.S, .int .i64 x11.R.V.K, .int .i64 x11.R.V.N, .string x11.R.V.S]) RTExpr.lasts Sz_126 rfl rfl rfl rfl ⟨rfl, rfl, rfl, rfl, rfl, trivial⟩ rfl h14 rfl rfl (fun ap => (Dj.nil _))) rfl (fun Φ_17 D8 q12 => ?_))
     obtain ⟨⟨ap10, fr12⟩, h15⟩ := q12
     replace ph0_0 := ph0_0.frame RI.lasts fr12 (ap10.o pa0_0)
     replace k4 := k4.frame OTPat.lasts fr12 (ap10.r (i := 6) rfl) (ap10.r (i := 5) rfl)
     replace h9 := h9.frame RS.lasts fr12 (ap10.r (i := 4) rfl) (Dj.nil _)
     replace k7 := k7.frame RTCond.lasts fr12 (ap10.r (i := 3) rfl) (Dj.nil _)
     replace k10 := k10.frame OTAct.lasts fr12 (ap10.r (i := 2) rfl) (ap10.r (i := 1) rfl)
     replace k13 := fr12 _ _ ((ap10.r (i := 0) rfl) _ (by simp)) k13
     refine WM.nil (by kernel_rfl) <| WT.seq <| WT.region <| lq (q_fieldAddr Fld_135_2 rfl) rfl <| lq (q_load1 T1_133 rfl (fun w1 hw => hw.rgO (i := 0) rfl 2 1 [v14] rfl)) rfl <| lq (q_move rfl) rfl <| lq (q_indexAddrH Sl_133 rfl rfl h15 hx11) rfl <| lq (q_fieldAddr Fld_175_0 rfl) rfl <| lq (q_load1 T1_9 rfl (fun w1 hw => (h15.rg.of_eq 0 1 rfl rfl : rg _ _ _ [.string x11.Op]).rangeAt hw.fro)) rfl <| lq (q_sne rfl rfl) rfl <| WL.nil ?_
     refine WT.cond rfl (fun c4 => ?_) (fun c4 => ?_)
     ·replace h := ite_t h c4
      refine WT.mix (Kn Φ_17 (ob u3 ++ (ob u4 ++ ob v14)) [(b_3, .cells #[.int .i64 x10.1.Kind, .string x10.1.Name, v14, .int .i64 x10.1.N, .string x10.1.Undo] 135 (0, 0)), (b_2, .cells #[.string p1, .int .i64 x1.1, u2, u3, u4] 49 (0, 0)), (b_1, .cells #[.string (⟨#[]⟩ : ByteArray), .int .i64 0, .slice none 0 0, .slice none 0 0, .slice none 0 0] 49 (0, 0))]) (fun i => match i with | 13 => false | _ => true) mixed (fun _ h => h.drew) ?_
      refine mq 0 rfl (by kernel_rfl) (fun w1 hw => Kn.of (fun _ _ _ h => h) (AllIn.mem ⟨gM 0 rfl, gM 1 rfl, gM 2 rfl, trivial⟩) hw) (q_fieldAddr Fld_135_2 rfl) rfl <| mq 1 rfl (by kernel_rfl) (fun w1 hw => Kn.of (fun _ _ _ h => h) (AllIn.mem ⟨gM 0 rfl, gM 1 rfl, gM 2 rfl, trivial⟩) hw) (q_load1 T1_133 rfl (fun w1 hw => hw.rgO (i := 0) rfl 2 1 [v14] rfl)) rfl ?_
      refine mq 2 rfl (by kernel_rfl) (fun w1 hw => Kn.of (fun _ _ _ h => h) (AllIn.mem ⟨gM 0 rfl, gM 1 rfl, gM 2 rfl, trivial⟩) hw) (q_move rfl) rfl <| mq 3 rfl (by kernel_rfl) (fun w1 hw => Kn.of (fun _ _ _ h => h) (AllIn.mem ⟨gM 0 rfl, gM 1 rfl, gM 2 rfl, trivial⟩) hw) (q_fieldAddr Fld_135_2 rfl) rfl ?_
      refine mq 4 rfl (by kernel_rfl) (fun w1 hw => Kn.of (fun _ _ _ h => h) (AllIn.mem ⟨gM 0 rfl, gM 1 rfl, gM 2 rfl, trivial⟩) hw) (q_load1 T1_133 rfl (fun w1 hw => hw.rgO (i := 0) rfl 2 1 [v14] rfl)) rfl <| mq 5 rfl (by kernel_rfl) (fun w1 hw => Kn.of (fun _ _ _ h => h) (AllIn.mem ⟨gM 0 rfl, gM 1 rfl, gM 2 rfl, trivial⟩) hw) (q_move rfl) rfl ?_
      refine mq 6 rfl (by kernel_rfl) (fun w1 hw => Kn.of (fun _ _ _ h => h) (AllIn.mem ⟨gM 0 rfl, gM 1 rfl, gM 2 rfl, trivial⟩) hw) (q_indexAddrH Sl_133 rfl rfl h15 hx11) rfl <| mq 7 rfl (by kernel_rfl) (fun w1 hw => Kn.of (fun _ _ _ h => h) (AllIn.mem ⟨gM 0 rfl, gM 1 rfl, gM 2 rfl, trivial⟩) hw) (q_fieldAddr Fld_175_2 rfl) rfl ?_
      refine mq 8 rfl (by kernel_rfl) (fun w1 hw => Kn.of (fun _ _ _ h => h) (AllIn.mem ⟨gM 0 rfl, gM 1 rfl, gM 2 rfl, trivial⟩) hw) (q_loadN Tn_126 rfl (fun w1 hw => hw.rg (List.mem_append.2 (.inr (List.mem_append.2 (.inr h15.hb)))) (h15.rg.of_eq 6 5 rfl rfl : rg _ _ _ [.int .i64 x11.R.K, .string x11.R.S, .int .i64 x11.R.V.K, .int .i64 x11.R.V.N, .string x11.R.V.S])) rfl) rfl ?_
      refine mq 9 rfl (by kernel_rfl) (fun w1 hw => Kn.of (fun _ _ _ h => h) (AllIn.mem ⟨gM 0 rfl, gM 1 rfl, gM 2 rfl, trivial⟩) hw) (q_move rfl) rfl ?_
      obtain ⟨x13, hx13, h⟩ := bind_some h
      refine WM.one 10 (by kernel_rfl) (mp rfl (fun _ w1 hw => Kn.of (fun _ _ _ h => h) (AllIn.mem ⟨gM 0 rfl, gM 1 rfl, gM 2 rfl, trivial⟩) hw) (p_call Fun_117 rfl (fun w1 hw => m_s_l9Fit_ok hw.fro N x11.R x6 h9.rsl hx13)) rfl ?_)
      refine mqT 11 [12, 13] rfl (by kernel_rfl) (fun w1 hw => Kn.of (fun _ _ _ h => h) (AllIn.mem ⟨gM 0 rfl, gM 1 rfl, gM 2 rfl, trivial⟩) hw) (q_indexAddrH Sl_133 rfl rfl h15 hx11) rfl <| mq 12 rfl (by kernel_rfl) (fun w1 hw => Kn.of (fun _ _ _ h => h) (AllIn.mem ⟨gM 0 rfl, gM 1 rfl, gM 2 rfl, trivial⟩) hw) (q_fieldAddr Fld_175_2 rfl) rfl ?_
      refine WM.one 13 (by kernel_rfl) (mu rfl (fun hc => by cases hc) (u_setH (js := [0]) (Rr := [[pb0], D6, ob u4, ob u3, ob v9, D5, ob u2]) (o := 6) (vs := [.int .i64 x13.K, .string x13.S, .int .i64 x13.V.K, .int .i64 x13.V.N, .string x13.V.S]) (cs' := [.string x11.Op, .int .i64 x12.K, .string x12.S, .int .i64 x12.V.K, .int .i64 x12.V.N, .string x12.V.S, .int .i64 x13.K, .string x13.S, .int .i64 x13.V.K, .int .i64 x13.V.N, .string x13.V.S]) RTExpr.lasts Sz_126 rfl rfl rfl rfl ⟨rfl, rfl, rfl, rfl, rfl, trivial⟩ rfl h15 rfl rfl (fun ap => (Dj.nil _))) rfl (fun Φ_18 D9 q13 => ?_))
      obtain ⟨⟨ap11, fr13⟩, h16⟩ := q13
      replace ph0_0 := ph0_0.frame RI.lasts fr13 (ap11.o pa0_0)
      replace k4 := k4.frame OTPat.lasts fr13 (ap11.r (i := 6) rfl) (ap11.r (i := 5) rfl)
      replace h9 := h9.frame RS.lasts fr13 (ap11.r (i := 4) rfl) (Dj.nil _)
      replace k7 := k7.frame RTCond.lasts fr13 (ap11.r (i := 3) rfl) (Dj.nil _)
      replace k10 := k10.frame OTAct.lasts fr13 (ap11.r (i := 2) rfl) (ap11.r (i := 1) rfl)
      replace k13 := fr13 _ _ ((ap11.r (i := 0) rfl) _ (by simp)) k13
      refine WM.nil (by kernel_rfl) <| WT.inBlock <| WT.region <| lq (q_move rfl) rfl <| lq (q_add rfl rfl) rfl <| lq (q_assign rfl) rfl <| WL.nil ?_
      have h17 := h16.unfocusF RTExpr.flat (cs := [.string x11.Op, .int .i64 x12.K, .string x12.S, .int .i64 x12.V.K, .int .i64 x12.V.N, .string x12.V.S, .int .i64 x13.K, .string x13.S, .int .i64 x13.V.K, .int .i64 x13.V.N, .string x13.V.S]) (x' := (⟨x11.Op, x12, x13⟩ : TExpr)) ⟨rfl, rfl⟩
      refine WT.inLoop (WT.mono (l' := [(0, .pointer (some ⟨pb0, 0, none⟩)), (4, .pointer (some ⟨b_1, 0, none⟩)), (5, .pointer (some ⟨b_2, 0, none⟩)), (7, v9), (9, .int .i64 s12), (10, .pointer (some ⟨b_3, 0, none⟩)), (11, .int .i64 (IntKind.i64.wrap (s16 + 1)))]) (S' := St w0 Φ_18 [(b_3, .cells #[.int .i64 x10.1.Kind, .string x10.1.Name, v14, .int .i64 x10.1.N, .string x10.1.Undo] 135 (0, 0)), (b_2, .cells #[.string p1, .int .i64 x1.1, u2, u3, u4] 49 (0, 0)), (b_1, .cells #[.string (⟨#[]⟩ : ByteArray), .int .i64 0, .slice none 0 0, .slice none 0 0, .slice none 0 0] 49 (0, 0))] [ob v14, [pb0], D6, ob u4, ob u3, ob v9, D5, ob u2]) ⟨rfl, rfl, rfl, rfl, rfl, rfl, rfl, trivial⟩ (fun w1 hw => (hw.sel (js := [0, 0, 0, 0, 0, 0, 0, 0]) rfl).selO (js := [0, 0, 0]) rfl) ?_)
      exact ih5 (Φ_18, (s15.set s16.toNat (⟨x11.Op, x12, x13⟩ : TExpr)), IntKind.i64.wrap (s16 + 1)) ⟨h, k4, h9, k7, k10, h17, k13, ph0_0⟩
     replace h := ite_f h c4
     refine WT.skip <| WT.inBlock <| WT.region <| lq (q_move rfl) rfl <| lq (q_add rfl rfl) rfl <| lq (q_assign rfl) rfl <| WL.nil ?_
     have h18 := h15.unfocusF RTExpr.flat (cs := [.string x11.Op, .int .i64 x12.K, .string x12.S, .int .i64 x12.V.K, .int .i64 x12.V.N, .string x12.V.S, .int .i64 x11.R.K, .string x11.R.S, .int .i64 x11.R.V.K, .int .i64 x11.R.V.N, .string x11.R.V.S]) (x' := (⟨x11.Op, x12, x11.R⟩ : TExpr)) ⟨rfl, rfl⟩
     refine WT.inLoop (WT.mono (l' := [(0, .pointer (some ⟨pb0, 0, none⟩)), (4, .pointer (some ⟨b_1, 0, none⟩)), (5, .pointer (some ⟨b_2, 0, none⟩)), (7, v9), (9, .int .i64 s12), (10, .pointer (some ⟨b_3, 0, none⟩)), (11, .int .i64 (IntKind.i64.wrap (s16 + 1)))]) (S' := St w0 Φ_17 [(b_3, .cells #[.int .i64 x10.1.Kind, .string x10.1.Name, v14, .int .i64 x10.1.N, .string x10.1.Undo] 135 (0, 0)), (b_2, .cells #[.string p1, .int .i64 x1.1, u2, u3, u4] 49 (0, 0)), (b_1, .cells #[.string (⟨#[]⟩ : ByteArray), .int .i64 0, .slice none 0 0, .slice none 0 0, .slice none 0 0] 49 (0, 0))] [ob v14, [pb0], D6, ob u4, ob u3, ob v9, D5, ob u2]) ⟨rfl, rfl, rfl, rfl, rfl, rfl, rfl, trivial⟩ (fun w1 hw => (hw.sel (js := [0, 0, 0, 0, 0, 0, 0, 0]) rfl).selO (js := [0, 0, 0]) rfl) ?_)
     exact ih5 (Φ_17, (s15.set s16.toNat (⟨x11.Op, x12, x11.R⟩ : TExpr)), IntKind.i64.wrap (s16 + 1)) ⟨h, k4, h9, k7, k10, h18, k13, ph0_0⟩
    replace h := ite_f h c3
    refine WT.exit rfl <| WT.region <| lq (q_fieldAddr Fld_49_4 rfl) rfl <| lq (q_load1 T1_47 rfl (fun w1 hw => hw.rgO (i := 1) rfl 4 1 [u4] rfl)) rfl <| lq (q_loadN Tn_135 rfl (fun w1 hw => hw.rgO (i := 0) rfl 0 5 [.int .i64 x10.1.Kind, .string x10.1.Name, v14, .int .i64 x10.1.N, .string x10.1.Undo] rfl) rfl) rfl ?_
    have rc3 : RC OTAct 5 Φ_16 ([(ob v14 ++ [])] : List (List Nat)) [.int .i64 x10.1.Kind, .string x10.1.Name, v14, .int .i64 x10.1.N, .string x10.1.Undo] ([(⟨x10.1.Kind, x10.1.Name, s15, x10.1.N, x10.1.Undo⟩ : TAct)] : List TAct) := RC.cons (c := [.int .i64 x10.1.Kind, .string x10.1.Name, v14, .int .i64 x10.1.N, .string x10.1.Undo]) (cells := []) ⟨v14, rfl, rfl, k12⟩ rfl (RC.nil _ _ _)
    refine le' (e_lit (vs := [(0, .agg [.int .i64 x10.1.Kind, .string x10.1.Name, v14, .int .i64 x10.1.N, .string x10.1.Undo].toArray)]) (C := #[.int .i64 x10.1.Kind, .string x10.1.Name, v14, .int .i64 x10.1.N, .string x10.1.Undo]) OTAct.lasts Sl_47 Zr_135 rfl rfl rfl rfl (fill_made MC_135_1 (fill_cons (cells := [.int .i64 0, .string ⟨#[]⟩, .slice none 0 0, .int .i64 0, .string ⟨#[]⟩]) (c := [.int .i64 x10.1.Kind, .string x10.1.Name, v14, .int .i64 x10.1.N, .string x10.1.Undo]) (C' := [.int .i64 x10.1.Kind, .string x10.1.Name, v14, .int .i64 x10.1.N, .string x10.1.Undo]) rfl rfl rfl rfl rfl (fill_nil))) rfl rc3 rfl (RC.kn OTAct.knows rc3)) rfl (fun v15 Φ_19 D10 q14 => ?_)
    obtain ⟨fr14, h19⟩ := q14
    replace h19 : OSl OTAct 135 5 Φ_19 ((ob v14 ++ [])) v15 ([(⟨x10.1.Kind, x10.1.Name, s15, x10.1.N, x10.1.Undo⟩ : TAct)] : List TAct) := by simpa [List.append_assoc] using h19
    replace ph0_0 := ph0_0.frame RI.lasts fr14 (Dj.empty _)
    replace k4 := k4.frame OTPat.lasts fr14 (Dj.empty _) (Dj.empty _)
    replace h9 := h9.frame RS.lasts fr14 (Dj.empty _) (Dj.empty _)
    replace k7 := k7.frame RTCond.lasts fr14 (Dj.empty _) (Dj.empty _)
    replace k10 := k10.frame OTAct.lasts fr14 (Dj.empty _) (Dj.empty _)
    replace k13 := fr14 _ _ (by simp) k13
    refine WL.conv (S' := St w0 Φ_19 [(b_3, .cells #[.int .i64 x10.1.Kind, .string x10.1.Name, v14, .int .i64 x10.1.N, .string x10.1.Undo] 135 (0, 0)), (b_2, .cells #[.string p1, .int .i64 x1.1, u2, u3, u4] 49 (0, 0)), (b_1, .cells #[.string (⟨#[]⟩ : ByteArray), .int .i64 0, .slice none 0 0, .slice none 0 0, .slice none 0 0] 49 (0, 0))] [((ob v14 ++ [])), ob v15, [pb0], D6, ob u4, ob u3, ob v9, D5, ob u2]) (fun w1 hw => hw.merge (js := [1]) rfl (SP.eq (by simp [List.append_assoc, ob_nil]))) ?_
    obtain ⟨x14, hx14, h⟩ := bind_some h
    refine le' (e_appO OTAct.lasts OTAct.one Sl_47 Ei_135 rfl rfl rfl rfl rfl (js := [4]) (Rr := [((ob v14 ++ [])), ob v15, [pb0], D6, ob u3, ob v9, D5, ob u2]) rfl k10 h19 (fun ap => (ap.r (i := 3) rfl)) (fun ap => (ap.r (i := 0) rfl)) hx14) rfl (fun v16 Φ_20 D11 q15 => ?_)
    obtain ⟨⟨ap12, fr15⟩, h20⟩ := q15
    replace ph0_0 := ph0_0.frame RI.lasts fr15 (ap12.o pa0_0)
    replace k4 := k4.frame OTPat.lasts fr15 (ap12.r (i := 7) rfl) (ap12.r (i := 6) rfl)
    replace h9 := h9.frame RS.lasts fr15 (ap12.r (i := 5) rfl) (Dj.nil _)
    replace k7 := k7.frame RTCond.lasts fr15 (ap12.r (i := 4) rfl) (Dj.nil _)
    replace k13 := fr15 _ _ ((ap12.r (i := 2) rfl) _ (by simp)) k13
    refine WL.conv (S' := St w0 Φ_20 [(b_3, .cells #[.int .i64 x10.1.Kind, .string x10.1.Name, v14, .int .i64 x10.1.N, .string x10.1.Undo] 135 (0, 0)), (b_2, .cells #[.string p1, .int .i64 x1.1, u2, u3, u4] 49 (0, 0)), (b_1, .cells #[.string (⟨#[]⟩ : ByteArray), .int .i64 0, .slice none 0 0, .slice none 0 0, .slice none 0 0] 49 (0, 0))] [(D6 ++ ((ob v14 ++ []))), ob v16, ob v15, [pb0], ob u3, ob v9, D5, ob u2]) (fun w1 hw => hw.merge (js := [4, 1]) rfl (SP.eq (by simp))) ?_
    refine lq (q_fieldAddr Fld_49_4 rfl) rfl <| ls (s_store (i := 1) (vs := [v16]) (C' := [.string p1, .int .i64 x1.1, u2, u3, v16]) (O' := [(b_3, .cells #[.int .i64 x10.1.Kind, .string x10.1.Name, v14, .int .i64 x10.1.N, .string x10.1.Undo] 135 (0, 0)), (b_2, .cells #[.string p1, .int .i64 x1.1, u2, u3, v16] 49 (0, 0)), (b_1, .cells #[.string (⟨#[]⟩ : ByteArray), .int .i64 0, .slice none 0 0, .slice none 0 0, .slice none 0 0] 49 (0, 0))]) Sz_47 rfl rfl rfl (one_cells h20.one) rfl rfl ⟨h20.one, trivial⟩ rfl rfl) rfl ?_
    refine WL.nil <| WT.inBlock <| WT.region <| lq (q_move rfl) rfl <| lq (q_sub rfl rfl) rfl <| lq (q_assign rfl) rfl <| WL.nil ?_
    refine WT.inLoop (WT.mono (l' := [(0, .pointer (some ⟨pb0, 0, none⟩)), (4, .pointer (some ⟨b_1, 0, none⟩)), (5, .pointer (some ⟨b_2, 0, none⟩)), (7, v9), (9, .int .i64 (IntKind.i64.wrap (s12 - 1)))]) (S' := St w0 Φ_20 [(b_2, .cells #[.string p1, .int .i64 x1.1, u2, u3, v16] 49 (0, 0)), (b_1, .cells #[.string (⟨#[]⟩ : ByteArray), .int .i64 0, .slice none 0 0, .slice none 0 0, .slice none 0 0] 49 (0, 0))] [(D6 ++ ((ob v14 ++ []))), ob v16, [pb0], ob u3, ob v9, D5, ob u2]) ⟨rfl, rfl, rfl, rfl, rfl, trivial⟩ (fun w1 hw => (hw.sel (js := [0, 0, 1, 1, 1, 1, 1]) rfl).selO (js := [1, 1]) rfl) ?_)
    exact ih4 (Φ_20, x14, v16, (D6 ++ ((ob v14 ++ []))), IntKind.i64.wrap (s12 - 1), x10.2.i, x10.2.h) ⟨h, k4, h9, k7, h20, k13, ph0_0⟩
   replace h := ite_f h c2
   refine WT.exit rfl <| WT.seq <| WT.region <| lq (q_loadN Tn_49 rfl (fun w1 hw => hw.rgO (i := 0) rfl 0 5 [.string p1, .int .i64 x1.1, u2, u3, u4] rfl) rfl) rfl <| ls (s_store (i := 1) (vs := [.string p1, .int .i64 x1.1, u2, u3, u4]) (C' := [.string p1, .int .i64 x1.1, u2, u3, u4]) (O' := [(b_2, .cells #[.string p1, .int .i64 x1.1, u2, u3, u4] 49 (0, 0)), (b_1, .cells #[.string p1, .int .i64 x1.1, u2, u3, u4] 49 (0, 0))]) Sz_49 rfl rfl rfl rfl rfl rfl ⟨rfl, rfl, k4.one, k7.one, k10.one, trivial⟩ rfl rfl) rfl ?_
   refine WL.nil ?_
   refine WT.ret Tryz.func56 (resOk.one (rv_cell Tn_49 rfl (fun w1 hw => hw.rgO (i := 1) rfl 0 5 [.string p1, .int .i64 x1.1, u2, u3, u4] rfl) rfl)) (fun w1 hw => ?_)
   subst hb0
   cases h
   refine postG_of_St (js := [6, 5, 3, 1, 0, 0]) hw rfl ⟨u2, D5, u3, u4, D6, rfl, rfl, k4, k7, k10, rfl, k11⟩
  refine WT.cond rfl (fun c5 => ?_) (fun c5 => ?_)
  ·replace h := ite_t h c5
   refine WT.seq <| WT.region <| lq (q_move rfl) rfl ?_
   obtain ⟨x15, hx15, h⟩ := bind_some h
   refine lc (k_call (js := [1]) (R := [ob (.slice none 0 0), ob v9, D5, ob u2]) Fun_116 rfl rfl (fun w1 hw ap hl => m_s_l7Draw_ok hw.fro N (⟨p0.b, x7.2.i, x7.2.h⟩ : Tl1Cur) ph0_0 h10 (ap.o pa0_0) ap.nd hl hx15)) rfl (fun v17 Φ_21 F10 q16 => ?_)
   obtain ⟨ap13, fr16, rfl, rfl, e8, h21⟩ := q16
   replace ph0_0 := ph0_0.frame RI.lasts fr16 (ap13.o pa0_0)
   replace k4 := k4.frame OTPat.lasts fr16 (ap13.r (i := 3) rfl) (ap13.r (i := 2) rfl)
   replace h9 := h9.frame RS.lasts fr16 (ap13.r (i := 1) rfl) (Dj.nil _)
   replace k6 := k6.frame RTCond.lasts fr16 (ap13.r (i := 0) rfl) (Dj.nil _)
   refine ln (n_alloc (C := #[.int .i64 0, .int .i64 0, .string (⟨#[]⟩ : ByteArray), .int .i64 0, .int .i64 0, .string (⟨#[]⟩ : ByteArray), .int .i64 0, .string (⟨#[]⟩ : ByteArray), .int .i64 0, .int .i64 0, .string (⟨#[]⟩ : ByteArray)]) Zr_128 rfl) rfl (fun b_4 => ?_)
   refine ls (s_store (i := 0) (vs := [.int .i64 x15.1.Op, .int .i64 x15.1.L.K, .string x15.1.L.S, .int .i64 x15.1.L.V.K, .int .i64 x15.1.L.V.N, .string x15.1.L.V.S, .int .i64 x15.1.R.K, .string x15.1.R.S, .int .i64 x15.1.R.V.K, .int .i64 x15.1.R.V.N, .string x15.1.R.V.S]) (C' := [.int .i64 x15.1.Op, .int .i64 x15.1.L.K, .string x15.1.L.S, .int .i64 x15.1.L.V.K, .int .i64 x15.1.L.V.N, .string x15.1.L.V.S, .int .i64 x15.1.R.K, .string x15.1.R.S, .int .i64 x15.1.R.V.K, .int .i64 x15.1.R.V.N, .string x15.1.R.V.S]) (O' := [(b_4, .cells #[.int .i64 x15.1.Op, .int .i64 x15.1.L.K, .string x15.1.L.S, .int .i64 x15.1.L.V.K, .int .i64 x15.1.L.V.N, .string x15.1.L.V.S, .int .i64 x15.1.R.K, .string x15.1.R.S, .int .i64 x15.1.R.V.K, .int .i64 x15.1.R.V.N, .string x15.1.R.V.S] 128 (0, 0)), (b_2, .cells #[.string p1, .int .i64 x1.1, u2, (.slice none 0 0), .slice none 0 0] 49 (0, 0)), (b_1, .cells #[.string (⟨#[]⟩ : ByteArray), .int .i64 0, .slice none 0 0, .slice none 0 0, .slice none 0 0] 49 (0, 0))]) Sz_128 rfl rfl rfl rfl rfl rfl ⟨rfl, rfl, rfl, rfl, rfl, rfl, rfl, rfl, rfl, rfl, rfl, trivial⟩ rfl rfl) rfl ?_
   refine WL.nil <| WT.seq <| WT.region <| lq (q_fieldAddr Fld_128_1 rfl) rfl <| lq (q_loadN Tn_126 rfl (fun w1 hw => hw.rgO (i := 0) rfl 1 5 [.int .i64 x15.1.L.K, .string x15.1.L.S, .int .i64 x15.1.L.V.K, .int .i64 x15.1.L.V.N, .string x15.1.L.V.S] rfl) rfl) rfl <| lq (q_move rfl) rfl ?_
   obtain ⟨x16, hx16, h⟩ := bind_some h
   refine lp (p_call Fun_117 rfl (fun w1 hw => m_s_l9Fit_ok hw.fro N x15.1.L x6 h9.rsl hx16)) rfl <| lq (q_fieldAddr Fld_128_1 rfl) rfl <| ls (s_store (i := 0) (vs := [.int .i64 x16.K, .string x16.S, .int .i64 x16.V.K, .int .i64 x16.V.N, .string x16.V.S]) (C' := [.int .i64 x15.1.Op, .int .i64 x16.K, .string x16.S, .int .i64 x16.V.K, .int .i64 x16.V.N, .string x16.V.S, .int .i64 x15.1.R.K, .string x15.1.R.S, .int .i64 x15.1.R.V.K, .int .i64 x15.1.R.V.N, .string x15.1.R.V.S]) (O' := [(b_4, .cells #[.int .i64 x15.1.Op, .int .i64 x16.K, .string x16.S, .int .i64 x16.V.K, .int .i64 x16.V.N, .string x16.V.S, .int .i64 x15.1.R.K, .string x15.1.R.S, .int .i64 x15.1.R.V.K, .int .i64 x15.1.R.V.N, .string x15.1.R.V.S] 128 (0, 0)), (b_2, .cells #[.string p1, .int .i64 x1.1, u2, (.slice none 0 0), .slice none 0 0] 49 (0, 0)), (b_1, .cells #[.string (⟨#[]⟩ : ByteArray), .int .i64 0, .slice none 0 0, .slice none 0 0, .slice none 0 0] 49 (0, 0))]) Sz_126 rfl rfl rfl rfl rfl rfl ⟨rfl, rfl, rfl, rfl, rfl, trivial⟩ rfl rfl) rfl ?_
   refine WL.nil <| WT.seq <| WT.region <| lq (q_fieldAddr Fld_128_2 rfl) rfl <| lq (q_loadN Tn_126 rfl (fun w1 hw => hw.rgO (i := 0) rfl 6 5 [.int .i64 x15.1.R.K, .string x15.1.R.S, .int .i64 x15.1.R.V.K, .int .i64 x15.1.R.V.N, .string x15.1.R.V.S] rfl) rfl) rfl <| lq (q_move rfl) rfl ?_
   obtain ⟨x17, hx17, h⟩ := bind_some h
   refine lp (p_call Fun_117 rfl (fun w1 hw => m_s_l9Fit_ok hw.fro N x15.1.R x6 h9.rsl hx17)) rfl <| lq (q_fieldAddr Fld_128_2 rfl) rfl <| ls (s_store (i := 0) (vs := [.int .i64 x17.K, .string x17.S, .int .i64 x17.V.K, .int .i64 x17.V.N, .string x17.V.S]) (C' := [.int .i64 x15.1.Op, .int .i64 x16.K, .string x16.S, .int .i64 x16.V.K, .int .i64 x16.V.N, .string x16.V.S, .int .i64 x17.K, .string x17.S, .int .i64 x17.V.K, .int .i64 x17.V.N, .string x17.V.S]) (O' := [(b_4, .cells #[.int .i64 x15.1.Op, .int .i64 x16.K, .string x16.S, .int .i64 x16.V.K, .int .i64 x16.V.N, .string x16.V.S, .int .i64 x17.K, .string x17.S, .int .i64 x17.V.K, .int .i64 x17.V.N, .string x17.V.S] 128 (0, 0)), (b_2, .cells #[.string p1, .int .i64 x1.1, u2, (.slice none 0 0), .slice none 0 0] 49 (0, 0)), (b_1, .cells #[.string (⟨#[]⟩ : ByteArray), .int .i64 0, .slice none 0 0, .slice none 0 0, .slice none 0 0] 49 (0, 0))]) Sz_126 rfl rfl rfl rfl rfl rfl ⟨rfl, rfl, rfl, rfl, rfl, trivial⟩ rfl rfl) rfl ?_
   refine WL.nil <| WT.region <| lq (q_fieldAddr Fld_49_3 rfl) rfl <| lq (q_load1 T1_46 rfl (fun w1 hw => hw.rgO (i := 1) rfl 3 1 [(.slice none 0 0)] rfl)) rfl <| lq (q_loadN Tn_128 rfl (fun w1 hw => hw.rgO (i := 0) rfl 0 11 [.int .i64 x15.1.Op, .int .i64 x16.K, .string x16.S, .int .i64 x16.V.K, .int .i64 x16.V.N, .string x16.V.S, .int .i64 x17.K, .string x17.S, .int .i64 x17.V.K, .int .i64 x17.V.N, .string x17.V.S] rfl) rfl) rfl ?_
   have rc4 : RC RTCond 11 Φ_21 ([[]] : List (List Nat)) [.int .i64 x15.1.Op, .int .i64 x16.K, .string x16.S, .int .i64 x16.V.K, .int .i64 x16.V.N, .string x16.V.S, .int .i64 x17.K, .string x17.S, .int .i64 x17.V.K, .int .i64 x17.V.N, .string x17.V.S] ([(⟨x15.1.Op, x16, x17⟩ : TCond)] : List TCond) := RC.cons (c := [.int .i64 x15.1.Op, .int .i64 x16.K, .string x16.S, .int .i64 x16.V.K, .int .i64 x16.V.N, .string x16.V.S, .int .i64 x17.K, .string x17.S, .int .i64 x17.V.K, .int .i64 x17.V.N, .string x17.V.S]) (cells := []) ⟨rfl, rfl⟩ rfl (RC.nil _ _ _)
   refine le' (e_lit (vs := [(0, .agg [.int .i64 x15.1.Op, .int .i64 x16.K, .string x16.S, .int .i64 x16.V.K, .int .i64 x16.V.N, .string x16.V.S, .int .i64 x17.K, .string x17.S, .int .i64 x17.V.K, .int .i64 x17.V.N, .string x17.V.S].toArray)]) (C := #[.int .i64 x15.1.Op, .int .i64 x16.K, .string x16.S, .int .i64 x16.V.K, .int .i64 x16.V.N, .string x16.V.S, .int .i64 x17.K, .string x17.S, .int .i64 x17.V.K, .int .i64 x17.V.N, .string x17.V.S]) RTCond.lasts Sl_46 Zr_128 rfl rfl rfl rfl (fill_made MC_128_1 (fill_cons (cells := [.int .i64 0, .int .i64 0, .string ⟨#[]⟩, .int .i64 0, .int .i64 0, .string ⟨#[]⟩, .int .i64 0, .string ⟨#[]⟩, .int .i64 0, .int .i64 0, .string ⟨#[]⟩]) (c := [.int .i64 x15.1.Op, .int .i64 x16.K, .string x16.S, .int .i64 x16.V.K, .int .i64 x16.V.N, .string x16.V.S, .int .i64 x17.K, .string x17.S, .int .i64 x17.V.K, .int .i64 x17.V.N, .string x17.V.S]) (C' := [.int .i64 x15.1.Op, .int .i64 x16.K, .string x16.S, .int .i64 x16.V.K, .int .i64 x16.V.N, .string x16.V.S, .int .i64 x17.K, .string x17.S, .int .i64 x17.V.K, .int .i64 x17.V.N, .string x17.V.S]) rfl rfl rfl rfl rfl (fill_nil))) rfl rc4 rfl (by simpa using Kw.nil)) rfl (fun v18 Φ_22 D12 q17 => ?_)
   obtain ⟨fr17, h22⟩ := q17
   replace h22 : OSl RTCond 128 11 Φ_22 [] v18 ([(⟨x15.1.Op, x16, x17⟩ : TCond)] : List TCond) := by simpa using h22
   replace ph0_0 := ph0_0.frame RI.lasts fr17 (Dj.empty _)
   replace k4 := k4.frame OTPat.lasts fr17 (Dj.empty _) (Dj.empty _)
   replace h9 := h9.frame RS.lasts fr17 (Dj.empty _) (Dj.empty _)
   replace k6 := k6.frame RTCond.lasts fr17 (Dj.empty _) (Dj.empty _)
   replace h21 := fr17 _ _ (by simp) h21
   obtain ⟨x18, hx18, h⟩ := bind_some h
   refine le' (e_appF RTCond.lasts RTCond.one RTCond.flat Sl_46 Ei_128 rfl rfl rfl rfl rfl (js := [2]) (Rr := [ob v18, [pb0], ob v9, D5, ob u2]) rfl k6 h22.rsl hx18) rfl (fun v19 Φ_23 D13 q18 => ?_)
   obtain ⟨⟨ap14, fr18⟩, h23⟩ := q18
   replace ph0_0 := ph0_0.frame RI.lasts fr18 (ap14.o pa0_0)
   replace k4 := k4.frame OTPat.lasts fr18 (ap14.r (i := 4) rfl) (ap14.r (i := 3) rfl)
   replace h9 := h9.frame RS.lasts fr18 (ap14.r (i := 2) rfl) (Dj.nil _)
   replace h21 := fr18 _ _ ((ap14.r (i := 1) rfl) _ (by simp)) h21
   refine lq (q_fieldAddr Fld_49_3 rfl) rfl <| ls (s_store (i := 1) (vs := [v19]) (C' := [.string p1, .int .i64 x1.1, u2, v19, .slice none 0 0]) (O' := [(b_4, .cells #[.int .i64 x15.1.Op, .int .i64 x16.K, .string x16.S, .int .i64 x16.V.K, .int .i64 x16.V.N, .string x16.V.S, .int .i64 x17.K, .string x17.S, .int .i64 x17.V.K, .int .i64 x17.V.N, .string x17.V.S] 128 (0, 0)), (b_2, .cells #[.string p1, .int .i64 x1.1, u2, v19, .slice none 0 0] 49 (0, 0)), (b_1, .cells #[.string (⟨#[]⟩ : ByteArray), .int .i64 0, .slice none 0 0, .slice none 0 0, .slice none 0 0] 49 (0, 0))]) Sz_46 rfl rfl rfl (one_cells h23.one) rfl rfl ⟨h23.one, trivial⟩ rfl rfl) rfl ?_
   refine WL.nil <| WT.mono (l' := [(0, .pointer (some ⟨pb0, 0, none⟩)), (4, .pointer (some ⟨b_1, 0, none⟩)), (5, .pointer (some ⟨b_2, 0, none⟩)), (7, v9)]) (S' := St w0 Φ_23 [(b_2, .cells #[.string p1, .int .i64 x1.1, u2, v19, .slice none 0 0] 49 (0, 0)), (b_1, .cells #[.string (⟨#[]⟩ : ByteArray), .int .i64 0, .slice none 0 0, .slice none 0 0, .slice none 0 0] 49 (0, 0))] [ob v19, [pb0], ob v9, D5, ob u2]) ⟨rfl, rfl, rfl, rfl, trivial⟩ (fun w1 hw => (hw.sel (js := [0, 1, 1, 1, 1]) rfl).selO (js := [1, 1]) rfl) ?_
   exact K (Φ_23, x18, v19, x15.2.i, x15.2.h) ⟨h, k4, h9, h23, h21, ph0_0⟩
  replace h := ite_f h c5
  refine WT.skip <| WT.mono (l' := [(0, .pointer (some ⟨pb0, 0, none⟩)), (4, .pointer (some ⟨b_1, 0, none⟩)), (5, .pointer (some ⟨b_2, 0, none⟩)), (7, v9)]) (S' := St w0 Φ_11 [(b_2, .cells #[.string p1, .int .i64 x1.1, u2, (.slice none 0 0), .slice none 0 0] 49 (0, 0)), (b_1, .cells #[.string (⟨#[]⟩ : ByteArray), .int .i64 0, .slice none 0 0, .slice none 0 0, .slice none 0 0] 49 (0, 0))] [ob (.slice none 0 0), [pb0], ob v9, D5, ob u2]) ⟨rfl, rfl, rfl, rfl, trivial⟩ (fun w1 hw => (hw.sel (js := [0, 0, 0, 0, 0]) rfl).selO (js := [0, 0]) rfl) ?_
  exact K (Φ_11, ([] : List TCond), (.slice none 0 0), x7.2.i, x7.2.h) ⟨h, k4, h9, k6, h10, ph0_0⟩
 refine WT.cond rfl (fun c6 => ?_) (fun c6 => ?_)
 ·replace h := ite_t h c6
  refine WT.mix (Kn Φ_8 [] [(b_2, .cells #[.string p1, .int .i64 x1.1, u1, .slice none 0 0, .slice none 0 0] 49 (0, 0)), (b_1, .cells #[.string (⟨#[]⟩ : ByteArray), .int .i64 0, .slice none 0 0, .slice none 0 0, .slice none 0 0] 49 (0, 0))]) (fun i => match i with | 7 => false | _ => true) mixed (fun _ h => h.drew) <| mq 0 rfl (by kernel_rfl) (fun w1 hw => Kn.of (fun k hk _ _ => by simp at hk) (AllIn.mem ⟨gM 0 rfl, gM 1 rfl, trivial⟩) hw) (q_fieldAddr Fld_49_2 rfl) rfl ?_
  refine mq 1 rfl (by kernel_rfl) (fun w1 hw => Kn.of (fun k hk _ _ => by simp at hk) (AllIn.mem ⟨gM 0 rfl, gM 1 rfl, trivial⟩) hw) (q_load1 T1_45 rfl (fun w1 hw => hw.rgO (i := 0) rfl 2 1 [u1] rfl)) rfl <| mq 2 rfl (by kernel_rfl) (fun w1 hw => Kn.of (fun k hk _ _ => by simp at hk) (AllIn.mem ⟨gM 0 rfl, gM 1 rfl, trivial⟩) hw) (q_move rfl) rfl ?_
  obtain ⟨x19, hx19, h⟩ := bind_some h
  refine WM.one 3 (by kernel_rfl) (mc rfl (fun _ v Φx D w1 hq hw => Kn.of (fun k hk _ _ => by simp at hk) (AllIn.mem ⟨gM 0 rfl, gM 1 rfl, trivial⟩) hw) (k_call (js := [0]) (R := [D2, ob u1]) Fun_114 rfl rfl (fun w1 hw ap hl => m_s_l6Draw_ok hw.fro N (⟨p0.b, x5.2.i, x5.2.h⟩ : Tl1Cur) true ph0_0 h8 (ap.o pa0_0) ap.nd hl hx19)) rfl (fun v20 Φ_24 F11 q19 => ?_))
  obtain ⟨ap15, fr19, v21, rfl, rfl, h24, e9, h25⟩ := q19
  replace ph0_0 := ph0_0.frame RI.lasts fr19 (ap15.o pa0_0)
  replace k2 := k2.frame OTPat.lasts fr19 (ap15.r (i := 1) rfl) (ap15.r (i := 0) rfl)
  have rc5 : RC OTPat 3 Φ_24 ([(ob v21 ++ [])] : List (List Nat)) [.string x19.1.Kind, v21, .bool x19.1.Not] ([x19.1] : List TPat) := RC.cons (c := [.string x19.1.Kind, v21, .bool x19.1.Not]) (cells := []) ⟨v21, rfl, rfl, h24⟩ rfl (RC.nil _ _ _)
  refine WM.one 4 (by kernel_rfl) (me rfl (fun _ v Φx D w1 hq hw => Kn.of (fun k hk _ _ => by simp at hk) (AllIn.mem ⟨gM 0 rfl, gM 1 rfl, trivial⟩) hw) (e_lit (vs := [(0, .agg [.string x19.1.Kind, v21, .bool x19.1.Not].toArray)]) (C := #[.string x19.1.Kind, v21, .bool x19.1.Not]) OTPat.lasts Sl_45 Zr_114 rfl rfl rfl rfl (fill_made MC_114_1 (fill_cons (cells := [.string ⟨#[]⟩, .slice none 0 0, .bool false]) (c := [.string x19.1.Kind, v21, .bool x19.1.Not]) (C' := [.string x19.1.Kind, v21, .bool x19.1.Not]) rfl rfl rfl rfl rfl (fill_nil))) rfl rc5 rfl (RC.kn OTPat.knows rc5)) rfl (fun v22 Φ_25 D14 q20 => ?_))
  obtain ⟨fr20, h26⟩ := q20
  replace h26 : OSl OTPat 114 3 Φ_25 ((ob v21 ++ [])) v22 ([x19.1] : List TPat) := by simpa [List.append_assoc] using h26
  replace ph0_0 := ph0_0.frame RI.lasts fr20 (Dj.empty _)
  replace k2 := k2.frame OTPat.lasts fr20 (Dj.empty _) (Dj.empty _)
  replace h25 := fr20 _ _ (by simp) h25
  refine WM.conv (S' := St w0 Φ_25 [(b_2, .cells #[.string p1, .int .i64 x1.1, u1, .slice none 0 0, .slice none 0 0] 49 (0, 0)), (b_1, .cells #[.string (⟨#[]⟩ : ByteArray), .int .i64 0, .slice none 0 0, .slice none 0 0, .slice none 0 0] 49 (0, 0))] [((ob v21 ++ [])), ob v22, [pb0], D2, ob u1]) (fun w1 hw => hw.merge (js := [1]) rfl (SP.eq (by simp [List.append_assoc, ob_nil]))) ?_
  obtain ⟨x20, hx20, h⟩ := bind_some h
  refine WM.one 5 (by kernel_rfl) (me rfl (fun _ v Φx D w1 hq hw => Kn.of (fun k hk _ _ => by simp at hk) (AllIn.mem ⟨gM 0 rfl, gM 1 rfl, trivial⟩) hw) (e_appO OTPat.lasts OTPat.one Sl_45 Ei_114 rfl rfl rfl rfl rfl (js := [4]) (Rr := [((ob v21 ++ [])), ob v22, [pb0], D2]) rfl k2 h26 (fun ap => (ap.r (i := 3) rfl)) (fun ap => (ap.r (i := 0) rfl)) hx20) rfl (fun v23 Φ_26 D15 q21 => ?_))
  obtain ⟨⟨ap16, fr21⟩, h27⟩ := q21
  replace ph0_0 := ph0_0.frame RI.lasts fr21 (ap16.o pa0_0)
  replace h25 := fr21 _ _ ((ap16.r (i := 2) rfl) _ (by simp)) h25
  refine WM.conv (S' := St w0 Φ_26 [(b_2, .cells #[.string p1, .int .i64 x1.1, u1, .slice none 0 0, .slice none 0 0] 49 (0, 0)), (b_1, .cells #[.string (⟨#[]⟩ : ByteArray), .int .i64 0, .slice none 0 0, .slice none 0 0, .slice none 0 0] 49 (0, 0))] [(D2 ++ ((ob v21 ++ []))), ob v23, ob v22, [pb0]]) (fun w1 hw => hw.merge (js := [4, 1]) rfl (SP.eq (by simp))) <| mq 6 rfl (by kernel_rfl) (fun w1 hw => Kn.of (fun k hk _ _ => by simp at hk) (AllIn.mem ⟨gM 0 rfl, gM 1 rfl, trivial⟩) hw) (q_fieldAddr Fld_49_2 rfl) rfl ?_
  refine WM.one 7 (by kernel_rfl) (ms rfl (fun hc => by cases hc) (s_store (i := 0) (vs := [v23]) (C' := [.string p1, .int .i64 x1.1, v23, .slice none 0 0, .slice none 0 0]) (O' := [(b_2, .cells #[.string p1, .int .i64 x1.1, v23, .slice none 0 0, .slice none 0 0] 49 (0, 0)), (b_1, .cells #[.string (⟨#[]⟩ : ByteArray), .int .i64 0, .slice none 0 0, .slice none 0 0, .slice none 0 0] 49 (0, 0))]) Sz_45 rfl rfl rfl (one_cells h27.one) rfl rfl ⟨h27.one, trivial⟩ rfl rfl) rfl ?_)
  refine WM.nil (by kernel_rfl) <| WT.mono (l' := [(0, .pointer (some ⟨pb0, 0, none⟩)), (4, .pointer (some ⟨b_1, 0, none⟩)), (5, .pointer (some ⟨b_2, 0, none⟩))]) (S' := St w0 Φ_26 [(b_2, .cells #[.string p1, .int .i64 x1.1, v23, .slice none 0 0, .slice none 0 0] 49 (0, 0)), (b_1, .cells #[.string (⟨#[]⟩ : ByteArray), .int .i64 0, .slice none 0 0, .slice none 0 0, .slice none 0 0] 49 (0, 0))] [[pb0], (D2 ++ ((ob v21 ++ []))), ob v23]) ⟨rfl, rfl, rfl, trivial⟩ (fun w1 hw => (hw.sel (js := [3, 0, 0]) rfl).selO (js := [0, 0]) rfl) ?_
  exact K (Φ_26, x20, v23, (D2 ++ ((ob v21 ++ []))), x19.2.i, x19.2.h) ⟨h, h27, h25, ph0_0⟩
 replace h := ite_f h c6
 refine WT.skip <| WT.mono (l' := [(0, .pointer (some ⟨pb0, 0, none⟩)), (4, .pointer (some ⟨b_1, 0, none⟩)), (5, .pointer (some ⟨b_2, 0, none⟩))]) (S' := St w0 Φ_8 [(b_2, .cells #[.string p1, .int .i64 x1.1, u1, .slice none 0 0, .slice none 0 0] 49 (0, 0)), (b_1, .cells #[.string (⟨#[]⟩ : ByteArray), .int .i64 0, .slice none 0 0, .slice none 0 0, .slice none 0 0] 49 (0, 0))] [[pb0], D2, ob u1]) ⟨rfl, rfl, rfl, trivial⟩ (fun w1 hw => (hw.sel (js := [0, 0, 0]) rfl).selO (js := [0, 0]) rfl) ?_
 exact K (Φ_8, s1, u1, D2, x5.2.i, x5.2.h) ⟨h, k2, h8, ph0_0⟩
theorem m_s_l4Drop_ok {Φ : Hp} {w : World} (hΦ : In Φ w) (N : Nat) (p0 : TStore) (p1 : Int) {pv0_0 : Value} {pG0_0 : List Nat} {pb0 : Nat} (ph0_0 : RSl RTItem 3 Φ pG0_0 pv0_0 p0.Items) (pp0 : Φ pb0 = some (.cells #[pv0_0, .int .i64 p0.Next] 52 (0, 0))) (pd0_0 : Dj pG0_0 [[pb0]].flatten) (hB : [[pb0]].flatten.Nodup) (hlt : ∀ k ∈ [[pb0]].flatten, k < w.heap.size) {r : Bool × TStore} (h : m_s_l4Drop N p0 p1 = some r) :
  Calls Tryz.prog 120 [.pointer (some ⟨pb0, 0, none⟩), .int .i64 p1].toArray w (PostG Φ w [[pb0]].flatten (fun Φ' Fs v => ∃ (so_0_0 : Value) (Do_0_0 : List Nat), v = .bool r.1 ∧ Fs = [[pb0], ob so_0_0] ∧ OSl RTItem 142 3 Φ' Do_0_0 so_0_0 r.2.Items ∧ (∀ k ∈ Do_0_0, k ∈ pG0_0) ∧ Φ' pb0 = some (.cells #[so_0_0, .int .i64 r.2.Next] 52 (0, 0)))) := by
 refine enter Tryz.func120 rfl Tryz.ntmps120 rfl (St.start hΦ [[pb0]] hB hlt) ?_
 have pa0_0 : Old ⟨w, [[pb0]].flatten, Φ⟩ pG0_0 := Old.mk hΦ ph0_0.kn pd0_0
 revert pa0_0
 generalize hb0 : (⟨w, [[pb0]].flatten, Φ⟩ : Base) = w0
 intro pa0_0
 unfold m_s_l4Drop at h
 refine WT.seq <| WT.region <| lq (q_assign rfl) rfl <| WL.nil <| WT.seq <| WT.region ?_
 have rc1 : RC OTItem 3 Φ ([] : List (List Nat)) [] ([] : List TItem) := RC.nil _ _ _
 refine le' (e_lit (vs := []) (C := #[]) OTItem.lasts Sl_50 Zr_142 rfl rfl rfl rfl (fill_made MC_142_0 (fill_nil)) rfl rc1 rfl (by simpa using Kw.nil)) rfl (fun v1 Φ_1 D1 q1 => ?_)
 obtain ⟨fr1, h1⟩ := q1
 replace h1 : OSl OTItem 142 3 Φ_1 [] v1 ([] : List TItem) := by simpa [List.append_assoc] using h1
 replace ph0_0 := ph0_0.frame RTItem.lasts fr1 (Dj.empty _)
 replace pp0 := fr1 _ _ (by simp) pp0
 refine WL.conv (S' := St w0 Φ_1 [] [[], ob v1, [pb0]]) (fun w1 hw => hw.addNil) <| lq (q_assign rfl) rfl <| WL.nil <| WT.seq <| WT.seq <| WT.region <| lq (q_assign rfl) rfl <| WL.nil <| WT.block <| WT.loop ?_
 replace h1 := h1.gives OTItem.gives
 refine WT.mono (l' := [(0, .pointer (some ⟨pb0, 0, none⟩)), (1, .int .i64 p1), (5, v1), (6, .int .i64 0)]) (S' := St w0 Φ_1 [] [ob v1, [pb0]]) ⟨rfl, rfl, rfl, rfl, trivial⟩ (fun w1 hw => (hw.sel (js := [1, 1]) rfl).selO (js := []) rfl) ?_
 refine loop_ind (σ := Hp × (List TItem) × Value × List Nat × Int) (fun s => [(0, .pointer (some ⟨pb0, 0, none⟩)), (1, .int .i64 p1), (5, s.2.2.1), (6, .int .i64 s.2.2.2.2)]) (fun s => St w0 s.1 [] [ob s.2.2.1, [pb0]]) (fun m s => m_s_l4Drop_l1 N p0 p1 m s.2.1 s.2.2.2.2 = some r ∧ (OSl RTItem 142 3 s.1 s.2.2.2.1 s.2.2.1 s.2.1) ∧ (∀ k ∈ s.2.2.2.1, k ∈ pG0_0) ∧ (s.1 pb0 = some (.cells #[pv0_0, .int .i64 p0.Next] 52 (0, 0))) ∧ (RSl RTItem 3 s.1 pG0_0 pv0_0 p0.Items)) (fun s hm => none_ne (show (none : Option (Bool × TStore)) = some r from hm.1)) (fun n1 ih1 s hm => ?_) N (Φ_1, ([] : List TItem), v1, [], 0) ⟨h, h1, (by simp), pp0, ph0_0⟩
 obtain ⟨Φ_2, s1, u1, D2, s2⟩ := s
 obtain ⟨h, k1, i1, k2, ph0_0⟩ := hm
 replace h : m_s_l4Drop_l1 N p0 p1 (n1 + 1) s1 s2 = some r := h
 replace k1 : OSl RTItem 142 3 Φ_2 D2 u1 s1 := k1
 replace i1 : ∀ k ∈ D2, k ∈ pG0_0 := i1
 replace k2 : Φ_2 pb0 = some (.cells #[pv0_0, .int .i64 p0.Next] 52 (0, 0)) := k2
 replace ph0_0 : RSl RTItem 3 Φ_2 pG0_0 pv0_0 p0.Items := ph0_0
 show WT _ _ [(0, .pointer (some ⟨pb0, 0, none⟩)), (1, .int .i64 p1), (5, u1), (6, .int .i64 s2)] (St w0 Φ_2 [] [ob u1, [pb0]])
 unfold m_s_l4Drop_l1 at h
 refine WT.seq <| WT.seq <| WT.region <| lq (q_move rfl) rfl <| lq (q_move rfl) rfl <| lq (q_nilCheck rfl) rfl <| lq (q_fieldAddr Fld_52_0 rfl) rfl <| lq (q_load1 T1_50 rfl (fun w1 hw => ((rg_cells k2).of_eq 0 1 rfl rfl : rg _ _ _ [pv0_0]).rangeAt hw.fro)) rfl <| lq (q_lenR Sl_50 rfl rfl ph0_0) rfl <| lq (q_lss rfl rfl) rfl <| WL.nil ?_
 refine WT.cond rfl (fun c1 => ?_) (fun c1 => ?_)
 ·replace h := ite_t h c1
  refine WT.skip <| WT.seq <| WT.block <| WT.seq <| WT.region <| lq (q_move rfl) rfl <| lq (q_nilCheck rfl) rfl <| lq (q_fieldAddr Fld_52_0 rfl) rfl <| lq (q_load1 T1_50 rfl (fun w1 hw => ((rg_cells k2).of_eq 0 1 rfl rfl : rg _ _ _ [pv0_0]).rangeAt hw.fro)) rfl <| lq (q_move rfl) rfl ?_
  obtain ⟨x1, hx1, h⟩ := bind_some h
  obtain ⟨cs1, F1, -, g1, hb1, hs1, r1⟩ := ph0_0.el (idx_some hx1).2.2
  obtain ⟨v2, G1, rfl, hq1, h2⟩ := r1
  obtain rfl := hq1.symm
  refine lq (q_indexAddr Sl_50 rfl rfl ph0_0 hx1) rfl <| lq (q_fieldAddr Fld_142_0 rfl) rfl <| lq (q_load1 T1_3 rfl (fun w1 hw => (g1.of_eq 0 1 rfl rfl : rg _ _ _ [.int .i64 x1.Id]).rangeAt hw.fro)) rfl <| lq (q_move rfl) rfl <| lq (q_neq rfl rfl) rfl <| WL.nil ?_
  refine WT.cond rfl (fun c2 => ?_) (fun c2 => ?_)
  ·replace h := ite_t h c2
   refine WT.region <| lq (q_move rfl) rfl <| lq (q_move rfl) rfl <| lq (q_nilCheck rfl) rfl <| lq (q_fieldAddr Fld_52_0 rfl) rfl <| lq (q_load1 T1_50 rfl (fun w1 hw => ((rg_cells k2).of_eq 0 1 rfl rfl : rg _ _ _ [pv0_0]).rangeAt hw.fro)) rfl <| lq (q_move rfl) rfl ?_
   obtain ⟨x2, hx2, h⟩ := bind_some h
   obtain ⟨cs2, F2, -, g2, hb2, hs2, r2⟩ := ph0_0.el (idx_some hx2).2.2
   obtain ⟨v3, G2, rfl, hq2, h3⟩ := r2
   obtain rfl := hq2.symm
   refine lq (q_indexAddr Sl_50 rfl rfl ph0_0 hx2) rfl <| lq (q_loadN Tn_142 rfl (fun w1 hw => (g2.of_eq 0 3 rfl rfl : rg _ _ _ [.int .i64 x2.Id, .string x2.F.Kind, v3]).rangeAt hw.fro) rfl) rfl ?_
   have rc2 : RC RTItem 3 Φ_2 ([G2] : List (List Nat)) [.int .i64 x2.Id, .string x2.F.Kind, v3] ([x2] : List TItem) := RC.cons (c := [.int .i64 x2.Id, .string x2.F.Kind, v3]) (cells := []) ⟨v3, G2, rfl, rfl, h3⟩ rfl (RC.nil _ _ _)
   refine le' (e_lit (vs := [(0, .agg [.int .i64 x2.Id, .string x2.F.Kind, v3].toArray)]) (C := #[.int .i64 x2.Id, .string x2.F.Kind, v3]) RTItem.lasts Sl_50 Zr_142 rfl rfl rfl rfl (fill_made MC_142_1 (fill_cons (cells := [.int .i64 0, .string ⟨#[]⟩, .slice none 0 0]) (c := [.int .i64 x2.Id, .string x2.F.Kind, v3]) (C' := [.int .i64 x2.Id, .string x2.F.Kind, v3]) rfl rfl rfl rfl rfl (fill_nil))) rfl rc2 rfl (RC.kn RTItem.knows rc2)) rfl (fun v4 Φ_3 D3 q2 => ?_)
   obtain ⟨fr2, h4⟩ := q2
   replace h4 : OSl RTItem 142 3 Φ_3 (G2) v4 ([x2] : List TItem) := by simpa [List.append_assoc] using h4
   replace ph0_0 := ph0_0.frame RTItem.lasts fr2 (Dj.empty _)
   replace k1 := k1.frame RTItem.lasts fr2 (Dj.empty _) (Dj.empty _)
   replace k2 := fr2 _ _ (by simp) k2
   obtain ⟨x3, hx3, h⟩ := bind_some h
   refine le' (e_appO RTItem.lasts RTItem.one Sl_50 Ei_142 rfl rfl rfl rfl rfl (js := [1]) (Rr := [ob v4, [pb0]]) rfl k1 h4 (fun ap => (Dj.sub (ap.o pa0_0) i1)) (fun ap => (Dj.sub (Dj.sub (ap.o pa0_0) (fun k h => hs2 k h)) (fun k hk => (by simpa [List.append_assoc] using hk : k ∈ G2)))) hx3) rfl (fun v5 Φ_4 D4 q3 => ?_)
   obtain ⟨⟨ap1, fr3⟩, h5⟩ := q3
   replace ph0_0 := ph0_0.frame RTItem.lasts fr3 (ap1.o pa0_0)
   replace k2 := fr3 _ _ ((ap1.r (i := 1) rfl) _ (by simp)) k2
   refine lq (q_assign rfl) rfl <| WL.nil <| WT.inBlock <| WT.region <| lq (q_move rfl) rfl <| lq (q_add rfl rfl) rfl <| lq (q_assign rfl) rfl <| WL.nil ?_
   refine WT.inLoop (WT.mono (l' := [(0, .pointer (some ⟨pb0, 0, none⟩)), (1, .int .i64 p1), (5, v5), (6, .int .i64 (IntKind.i64.wrap (s2 + 1)))]) (S' := St w0 Φ_4 [] [ob v5, [pb0]]) ⟨rfl, rfl, rfl, rfl, trivial⟩ (fun w1 hw => (hw.sel (js := [0, 1]) rfl).selO (js := []) rfl) ?_)
   exact ih1 (Φ_4, x3, v5, (D2 ++ (G2)), IntKind.i64.wrap (s2 + 1)) ⟨h, h5, (fun k hk => ((List.mem_append.1 hk).elim (fun h => (i1 k h)) (fun h => ((fun k h => hs2 k h) k ((fun k hk => (by simpa [List.append_assoc] using hk : k ∈ G2)) k h))))), k2, ph0_0⟩
  replace h := ite_f h c2
  refine WT.skip <| WT.inBlock <| WT.region <| lq (q_move rfl) rfl <| lq (q_add rfl rfl) rfl <| lq (q_assign rfl) rfl <| WL.nil ?_
  refine WT.inLoop (WT.mono (l' := [(0, .pointer (some ⟨pb0, 0, none⟩)), (1, .int .i64 p1), (5, u1), (6, .int .i64 (IntKind.i64.wrap (s2 + 1)))]) (S' := St w0 Φ_2 [] [ob u1, [pb0]]) ⟨rfl, rfl, rfl, rfl, trivial⟩ (fun w1 hw => (hw.sel (js := [0, 0]) rfl).selO (js := []) rfl) ?_)
  exact ih1 (Φ_2, s1, u1, D2, IntKind.i64.wrap (s2 + 1)) ⟨h, k1, (fun k hk => (i1 k hk)), k2, ph0_0⟩
 replace h := ite_f h c1
 refine WT.exit rfl <| WT.seq <| WT.region <| lq (q_move rfl) rfl <| lq (q_lenR Sl_50 rfl rfl k1.rsl) rfl <| lq (q_move rfl) rfl <| lq (q_nilCheck rfl) rfl <| lq (q_fieldAddr Fld_52_0 rfl) rfl <| lq (q_load1 T1_50 rfl (fun w1 hw => ((rg_cells k2).of_eq 0 1 rfl rfl : rg _ _ _ [pv0_0]).rangeAt hw.fro)) rfl <| lq (q_lenR Sl_50 rfl rfl ph0_0) rfl <| lq (q_lss rfl rfl) rfl <| lq (q_assign rfl) rfl <| WL.nil <| WT.seq <| WT.region <| lq (q_move rfl) rfl <| lq (q_move rfl) rfl ?_
 refine lq (q_nilCheck rfl) rfl <| lq (q_fieldAddr Fld_52_0 rfl) rfl ?_
 refine WL.thw (js := [1]) (R := [ob u1]) rfl k2 (fun Φ_5 ap2 fr4 => ?_)
 replace ph0_0 := ph0_0.frame RTItem.lasts fr4 (ap2.o pa0_0)
 replace k1 := k1.frame RTItem.lasts fr4 (ap2.r (i := 0) rfl) (Dj.sub (ap2.o pa0_0) i1)
 refine ls (s_store (i := 0) (vs := [u1]) (C' := [u1, .int .i64 p0.Next]) (O' := [(pb0, .cells #[u1, .int .i64 p0.Next] 52 (0, 0))]) Sz_50 rfl rfl rfl (one_cells k1.one) rfl rfl ⟨k1.one, trivial⟩ rfl rfl) rfl <| WL.nil <| WT.seq <| WT.region <| lq (q_move rfl) rfl <| lq (q_assign rfl) rfl <| WL.nil ?_
 refine WT.frz (js := [0]) (R := []) rfl (fun Φ_6 fr5 k3 => ?_)
 replace k1 := k1.frame RTItem.lasts fr5 (Dj.empty _) (Dj.empty _)
 refine WT.ret Tryz.func120 (resOk.one rfl) (fun w1 hw => ?_)
 subst hb0
 cases h
 refine postG_of_St (js := [0, 0]) hw rfl ⟨u1, D2, rfl, rfl, k1, (fun k hk => (i1 k hk)), k3⟩
theorem m_s_l3Copy_ok {Φ : Hp} {w : World} (hΦ : In Φ w) (N : Nat) (p0 : TFact) {pv0_0 : Value} {pG0_0 : List Nat} (ph0_0 : RSl RTVal 3 Φ pG0_0 pv0_0 p0.Fields) {r : TFact} (h : m_s_l3Copy N p0 = some r) :
  Calls Tryz.prog 128 [.agg [.string p0.Kind, pv0_0].toArray].toArray w (PostG Φ w [] (fun Φ' Fs v => ∃ (sr_0_0 : Value), v = .agg [.string r.Kind, sr_0_0].toArray ∧ Fs = [ob sr_0_0] ∧ OSl RTVal 121 3 Φ' [] sr_0_0 r.Fields)) := by
 refine enter Tryz.func128 rfl Tryz.ntmps128 rfl (St.start0 hΦ) ?_
 have pa0_0 : Old ⟨w, [], Φ⟩ pG0_0 := Old.mk hΦ ph0_0.kn (Dj.empty _)
 unfold m_s_l3Copy at h
 refine WT.seq <| WT.region ?_
 refine ln (n_box (C := #[.string p0.Kind, pv0_0]) rfl rfl) rfl (fun b_1 => ?_)
 refine ln (n_alloc (C := #[.string (⟨#[]⟩ : ByteArray), .slice none 0 0]) Zr_116 rfl) rfl (fun b_2 => ?_)
 refine WL.nil <| WT.seq <| WT.region ?_
 have rc1 : RC RTVal 3 Φ ([] : List (List Nat)) [] ([] : List TVal) := RC.nil _ _ _
 refine le' (e_lit (vs := []) (C := #[]) RTVal.lasts Sl_100 Zr_121 rfl rfl rfl rfl (fill_made MC_121_0 (fill_nil)) rfl rc1 rfl (by simpa using Kw.nil)) rfl (fun v1 Φ_1 D1 q1 => ?_)
 obtain ⟨fr1, h1⟩ := q1
 replace h1 : OSl RTVal 121 3 Φ_1 [] v1 ([] : List TVal) := by simpa using h1
 replace ph0_0 := ph0_0.frame RTVal.lasts fr1 (Dj.empty _)
 refine lq (q_fieldAddr Fld_116_1 rfl) rfl <| lq (q_load1 T1_100 rfl (fun w1 hw => hw.rgO (i := 1) rfl 1 1 [pv0_0] rfl)) rfl ?_
 obtain ⟨x1, hx1, h⟩ := bind_some h
 refine le' (e_appF RTVal.lasts RTVal.one RTVal.flat Sl_100 Ei_121 rfl rfl rfl rfl rfl (js := [0]) (Rr := []) rfl h1 ph0_0 hx1) rfl (fun v2 Φ_2 D2 q2 => ?_)
 obtain ⟨⟨ap1, fr2⟩, h2⟩ := q2
 replace ph0_0 := ph0_0.frame RTVal.lasts fr2 (ap1.o pa0_0)
 refine lq (q_fieldAddr Fld_116_1 rfl) rfl <| ls (s_store (i := 1) (vs := [v2]) (C' := [.string p0.Kind, v2]) (O' := [(b_2, .cells #[.string (⟨#[]⟩ : ByteArray), .slice none 0 0] 116 (0, 0)), (b_1, .cells #[.string p0.Kind, v2] 116 (0, 0))]) Sz_100 rfl rfl rfl (one_cells h2.one) rfl rfl ⟨h2.one, trivial⟩ rfl rfl) rfl <| WL.nil <| WT.seq <| WT.region <| lq (q_loadN Tn_116 rfl (fun w1 hw => hw.rgO (i := 1) rfl 0 2 [.string p0.Kind, v2] rfl) rfl) rfl ?_
 refine ls (s_store (i := 0) (vs := [.string p0.Kind, v2]) (C' := [.string p0.Kind, v2]) (O' := [(b_2, .cells #[.string p0.Kind, v2] 116 (0, 0)), (b_1, .cells #[.string p0.Kind, v2] 116 (0, 0))]) Sz_116 rfl rfl rfl rfl rfl rfl ⟨rfl, h2.one, trivial⟩ rfl rfl) rfl <| WL.nil ?_
 refine WT.ret Tryz.func128 (resOk.one (rv_cell Tn_116 rfl (fun w1 hw => hw.rgO (i := 0) rfl 0 2 [.string p0.Kind, v2] rfl) rfl)) (fun w1 hw => ?_)
 cases h
 refine postG_of_St (js := [0]) hw rfl ⟨v2, rfl, rfl, h2⟩
theorem m_s_l3SameVals_ok {Φ : Hp} {w : World} (hΦ : In Φ w) (N : Nat) (p0 : (List TVal)) (p1 : (List TVal)) {pv0 : Value} {pG0 : List Nat} {pv1 : Value} {pG1 : List Nat} (ph0 : RSl RTVal 3 Φ pG0 pv0 p0) (ph1 : RSl RTVal 3 Φ pG1 pv1 p1) {r : Bool} (h : m_s_l3SameVals N p0 p1 = some r) :
  Calls Tryz.prog 174 [pv0, pv1].toArray w (Post (.bool r) w) := by
 refine enter Tryz.func174 rfl Tryz.ntmps174 rfl (St.start0 hΦ) ?_
 generalize hb0 : (⟨w, [], Φ⟩ : Base) = w0
 unfold m_s_l3SameVals at h
 refine WT.seq <| WT.region <| lq (q_assign rfl) rfl <| WL.nil <| WT.seq <| WT.seq <| WT.region <| lq (q_move rfl) rfl <| lq (q_lenR Sl_100 rfl rfl ph0) rfl <| lq (q_move rfl) rfl <| lq (q_lenR Sl_100 rfl rfl ph1) rfl <| lq (q_neq rfl rfl) rfl <| WL.nil ?_
 refine WT.cond rfl (fun c1 => ?_) (fun c1 => ?_)
 ·replace h := ite_t h c1
  refine WT.seq <| WT.region <| lq (q_assign rfl) rfl <| WL.nil ?_
  refine WT.ret Tryz.func174 (resOk.one rfl) (fun w1 hw => ?_)
  subst hb0
  cases h
  exact post_of_St hw
 replace h := ite_f h c1
 refine WT.skip <| WT.seq <| WT.seq <| WT.region <| lq (q_assign rfl) rfl <| WL.nil <| WT.block <| WT.loop <| WT.mono (l' := [(0, pv0), (1, pv1), (5, .int .i64 0)]) (S' := St w0 Φ [] []) ⟨rfl, rfl, rfl, trivial⟩ (fun w1 hw => (hw.sel (js := []) rfl).selO (js := []) rfl) ?_
 refine loop_ind (σ := Int) (fun s => [(0, pv0), (1, pv1), (5, .int .i64 s)]) (fun s => St w0 Φ [] []) (fun m s => m_s_l3SameVals_l1 N p0 p1 m s = some r) (fun s hm => none_ne (show (none : Option (Bool)) = some r from hm)) (fun n1 ih1 s hm => ?_) N (0) h
 revert hm; revert s; intro s1 hm
 have h : m_s_l3SameVals_l1 N p0 p1 (n1 + 1) s1 = some r := hm
 show WT _ _ [(0, pv0), (1, pv1), (5, .int .i64 s1)] (St w0 Φ [] [])
 unfold m_s_l3SameVals_l1 at h
 refine WT.seq <| WT.seq <| WT.region <| lq (q_move rfl) rfl <| lq (q_move rfl) rfl <| lq (q_lenR Sl_100 rfl rfl ph0) rfl <| lq (q_lss rfl rfl) rfl <| WL.nil ?_
 refine WT.cond rfl (fun c2 => ?_) (fun c2 => ?_)
 ·replace h := ite_t h c2
  refine WT.skip <| WT.seq <| WT.block <| WT.seq <| WT.draw mixed (by kernel_rfl) (fun _ h => h.drew) <| qq (q_move rfl) rfl <| qq (q_move rfl) rfl ?_
  obtain ⟨x1, hx1, h⟩ := bind_some h
  obtain ⟨cs1, F1, -, g1, hb1, hs1, r1⟩ := ph0.el (idx_some hx1).2.2
  obtain ⟨rfl, -⟩ := r1
  refine qq (q_indexAddr Sl_100 rfl rfl ph0 hx1) rfl <| qq (q_loadN Tn_121 rfl (fun w1 hw => (g1.of_eq 0 3 rfl rfl : rg _ _ _ [.int .i64 x1.K, .int .i64 x1.N, .string x1.S]).rangeAt hw.fro) rfl) rfl <| qq (q_move rfl) rfl <| qq (q_move rfl) rfl ?_
  obtain ⟨x2, hx2, h⟩ := bind_some h
  obtain ⟨cs2, F2, -, g2, hb2, hs2, r2⟩ := ph1.el (idx_some hx2).2.2
  obtain ⟨rfl, -⟩ := r2
  refine qq (q_indexAddr Sl_100 rfl rfl ph1 hx2) rfl <| qq (q_loadN Tn_121 rfl (fun w1 hw => (g2.of_eq 0 3 rfl rfl : rg _ _ _ [.int .i64 x2.K, .int .i64 x2.N, .string x2.S]).rangeAt hw.fro) rfl) rfl <| qq (q_neA EqT_121 rfl rfl rfl (r := eqT_TVal x1 x2) rfl) rfl <| WQ.nil ?_
  refine WT.cond rfl (fun c3 => ?_) (fun c3 => ?_)
  ·replace h := ite_t h c3
   refine WT.seq <| WT.region <| lq (q_assign rfl) rfl <| WL.nil ?_
   refine WT.ret Tryz.func174 (resOk.one rfl) (fun w1 hw => ?_)
   subst hb0
   cases h
   exact post_of_St hw
  replace h := ite_f h c3
  refine WT.skip <| WT.inBlock <| WT.region <| lq (q_move rfl) rfl <| lq (q_add rfl rfl) rfl <| lq (q_assign rfl) rfl <| WL.nil ?_
  refine WT.inLoop (WT.mono (l' := [(0, pv0), (1, pv1), (5, .int .i64 (IntKind.i64.wrap (s1 + 1)))]) (S' := St w0 Φ [] []) ⟨rfl, rfl, rfl, trivial⟩ (fun w1 hw => (hw.sel (js := []) rfl).selO (js := []) rfl) ?_)
  exact ih1 (IntKind.i64.wrap (s1 + 1)) h
 replace h := ite_f h c2
 refine WT.exit rfl <| WT.seq <| WT.region <| lq (q_assign rfl) rfl <| WL.nil ?_
 refine WT.ret Tryz.func174 (resOk.one rfl) (fun w1 hw => ?_)
 subst hb0
 cases h
 exact post_of_St hw
theorem m_s_SameFact_ok {Φ : Hp} {w : World} (hΦ : In Φ w) (N : Nat) (p0 : TFact) (p1 : TFact) {pv0_0 : Value} {pG0_0 : List Nat} {pv1_0 : Value} {pG1_0 : List Nat} (ph0_0 : RSl RTVal 3 Φ pG0_0 pv0_0 p0.Fields) (ph1_0 : RSl RTVal 3 Φ pG1_0 pv1_0 p1.Fields) {r : Bool} (h : m_s_SameFact N p0 p1 = some r) :
  Calls Tryz.prog 195 [.agg [.string p0.Kind, pv0_0].toArray, .agg [.string p1.Kind, pv1_0].toArray].toArray w (Post (.bool r) w) := by
 refine enter Tryz.func195 rfl Tryz.ntmps195 rfl (St.start0 hΦ) ?_
 unfold m_s_SameFact at h
 refine WT.seq <| WT.region ?_
 refine ln (n_box (C := #[.string p0.Kind, pv0_0]) rfl rfl) rfl (fun b_1 => ?_)
 refine ln (n_box (C := #[.string p1.Kind, pv1_0]) rfl rfl) rfl (fun b_2 => ?_)
 refine lq (q_assign rfl) rfl <| WL.nil <| WT.seq <| WT.region <| lq (q_fieldAddr Fld_116_0 rfl) rfl <| lq (q_load1 T1_9 rfl (fun w1 hw => hw.rgO (i := 1) rfl 0 1 [.string p0.Kind] rfl)) rfl <| lq (q_fieldAddr Fld_116_0 rfl) rfl <| lq (q_load1 T1_9 rfl (fun w1 hw => hw.rgO (i := 0) rfl 0 1 [.string p1.Kind] rfl)) rfl <| lq (q_seq rfl rfl) rfl <| lq (q_move rfl) rfl ?_
 obtain ⟨b1, hb_1, h⟩ := bind_some h
 refine WL.cutN 6 [(16, .bool b1), (4, .bool false)] ?_ (fun K => ?_)
 rotate_left
 ·refine WL.split (d := 10) rfl (fun c1 => ?_) (fun c1 => ?_)
  ·replace hb_1 := ite_t hb_1 c1
   refine WL.yes rfl rfl <| lq (q_fieldAddr Fld_116_1 rfl) rfl <| WL.yes rfl rfl <| lq (q_load1 T1_100 rfl (fun w1 hw => hw.rgO (i := 1) rfl 1 1 [pv0_0] rfl)) rfl <| WL.yes rfl rfl <| lq (q_fieldAddr Fld_116_1 rfl) rfl <| WL.yes rfl rfl <| lq (q_load1 T1_100 rfl (fun w1 hw => hw.rgO (i := 0) rfl 1 1 [pv1_0] rfl)) rfl <| WL.yes rfl rfl ?_
   obtain ⟨x1, hx1, hb_1⟩ := bind_some hb_1
   refine lp (p_call Fun_174 rfl (fun w1 hw => m_s_l3SameVals_ok hw.fro N p0.Fields p1.Fields ph0_0 ph1_0 hx1)) rfl <| WL.q (q_pick1 rfl rfl) rfl rfl rfl ?_
   cases hb_1
   exact WL.keep (by exact ⟨rfl, rfl, trivial⟩) K
  ·replace hb_1 := ite_f hb_1 c1
   refine WL.no rfl rfl rfl rfl <| WL.no rfl rfl rfl rfl <| WL.no rfl rfl rfl rfl <| WL.no rfl rfl rfl rfl <| WL.no rfl rfl rfl rfl <| WL.q (q_pick0 rfl rfl) rfl rfl rfl ?_
   cases hb_1
   exact WL.keep (by exact ⟨rfl, rfl, trivial⟩) K
 refine lq (q_assign rfl) rfl <| WL.nil ?_
 refine WT.ret Tryz.func195 (resOk.one rfl) (fun w1 hw => ?_)
 cases h
 exact post_of_St hw
theorem m_s_IdOf_ok {Φ : Hp} {w : World} (hΦ : In Φ w) (N : Nat) (p0 : TStore) (p1 : TFact) {pv0_0 : Value} {pG0_0 : List Nat} {pv1_0 : Value} {pG1_0 : List Nat} (ph0_0 : RSl RTItem 3 Φ pG0_0 pv0_0 p0.Items) (ph1_0 : RSl RTVal 3 Φ pG1_0 pv1_0 p1.Fields) {r : Int} (h : m_s_IdOf N p0 p1 = some r) :
  Calls Tryz.prog 137 [.agg [pv0_0, .int .i64 p0.Next].toArray, .agg [.string p1.Kind, pv1_0].toArray].toArray w (Post (.int .i64 r) w) := by
 refine enter Tryz.func137 rfl Tryz.ntmps137 rfl (St.start0 hΦ) ?_
 generalize hb0 : (⟨w, [], Φ⟩ : Base) = w0
 unfold m_s_IdOf at h
 refine WT.seq <| WT.region ?_
 refine ln (n_box (C := #[pv0_0, .int .i64 p0.Next]) rfl rfl) rfl (fun b_1 => ?_)
 refine ln (n_box (C := #[.string p1.Kind, pv1_0]) rfl rfl) rfl (fun b_2 => ?_)
 refine lq (q_assign rfl) rfl <| WL.nil <| WT.seq <| WT.seq <| WT.region <| lq (q_assign rfl) rfl <| WL.nil <| WT.block <| WT.loop <| WT.mono (l' := [(2, .pointer (some ⟨b_1, 0, none⟩)), (3, .pointer (some ⟨b_2, 0, none⟩)), (5, .int .i64 0)]) (S' := St w0 Φ [(b_2, .cells #[.string p1.Kind, pv1_0] 116 (0, 0)), (b_1, .cells #[pv0_0, .int .i64 p0.Next] 52 (0, 0))] []) ⟨rfl, rfl, rfl, trivial⟩ (fun w1 hw => (hw.sel (js := []) rfl).selO (js := [0, 0]) rfl) ?_
 refine loop_ind (σ := Int) (fun s => [(2, .pointer (some ⟨b_1, 0, none⟩)), (3, .pointer (some ⟨b_2, 0, none⟩)), (5, .int .i64 s)]) (fun s => St w0 Φ [(b_2, .cells #[.string p1.Kind, pv1_0] 116 (0, 0)), (b_1, .cells #[pv0_0, .int .i64 p0.Next] 52 (0, 0))] []) (fun m s => m_s_IdOf_l1 N p0 p1 m s = some r) (fun s hm => none_ne (show (none : Option (Int)) = some r from hm)) (fun n1 ih1 s hm => ?_) N (0) h
 revert hm; revert s; intro s1 hm
 have h : m_s_IdOf_l1 N p0 p1 (n1 + 1) s1 = some r := hm
 show WT _ _ [(2, .pointer (some ⟨b_1, 0, none⟩)), (3, .pointer (some ⟨b_2, 0, none⟩)), (5, .int .i64 s1)] (St w0 Φ [(b_2, .cells #[.string p1.Kind, pv1_0] 116 (0, 0)), (b_1, .cells #[pv0_0, .int .i64 p0.Next] 52 (0, 0))] [])
 unfold m_s_IdOf_l1 at h
 refine WT.seq <| WT.seq <| WT.region <| lq (q_move rfl) rfl <| lq (q_fieldAddr Fld_52_0 rfl) rfl <| lq (q_load1 T1_50 rfl (fun w1 hw => hw.rgO (i := 1) rfl 0 1 [pv0_0] rfl)) rfl <| lq (q_lenR Sl_50 rfl rfl ph0_0) rfl <| lq (q_lss rfl rfl) rfl <| WL.nil ?_
 refine WT.cond rfl (fun c1 => ?_) (fun c1 => ?_)
 ·replace h := ite_t h c1
  refine WT.skip <| WT.seq <| WT.block <| WT.seq <| WT.draw mixed (by kernel_rfl) (fun _ h => h.drew) <| qq (q_fieldAddr Fld_52_0 rfl) rfl <| qq (q_load1 T1_50 rfl (fun w1 hw => hw.rgO (i := 1) rfl 0 1 [pv0_0] rfl)) rfl <| qq (q_move rfl) rfl ?_
  obtain ⟨x1, hx1, h⟩ := bind_some h
  obtain ⟨cs1, F1, -, g1, hb1, hs1, r1⟩ := ph0_0.el (idx_some hx1).2.2
  obtain ⟨v1, G1, rfl, hq1, h1⟩ := r1
  obtain rfl := hq1.symm
  refine qq (q_indexAddr Sl_50 rfl rfl ph0_0 hx1) rfl <| qq (q_fieldAddr Fld_142_1 rfl) rfl <| qq (q_loadN Tn_116 rfl (fun w1 hw => (g1.of_eq 1 2 rfl rfl : rg _ _ _ [.string x1.F.Kind, v1]).rangeAt hw.fro) rfl) rfl <| qq (q_loadN Tn_116 rfl (fun w1 hw => hw.rgO (i := 0) rfl 0 2 [.string p1.Kind, pv1_0] rfl) rfl) rfl ?_
  obtain ⟨x2, hx2, h⟩ := bind_some h
  refine qp (p_call Fun_195 rfl (fun w1 hw => m_s_SameFact_ok hw.fro N x1.F p1 h1 ph1_0 hx2)) rfl <| WQ.nil ?_
  refine WT.cond rfl (fun c2 => ?_) (fun c2 => ?_)
  ·replace h := ite_t h c2
   refine WT.seq <| WT.region <| lq (q_fieldAddr Fld_52_0 rfl) rfl <| lq (q_load1 T1_50 rfl (fun w1 hw => hw.rgO (i := 1) rfl 0 1 [pv0_0] rfl)) rfl <| lq (q_move rfl) rfl ?_
   obtain ⟨x3, hx3, h⟩ := bind_some h
   obtain ⟨cs2, F2, -, g2, hb2, hs2, r2⟩ := ph0_0.el (idx_some hx3).2.2
   obtain ⟨v2, G2, rfl, hq2, h2⟩ := r2
   obtain rfl := hq2.symm
   refine lq (q_indexAddr Sl_50 rfl rfl ph0_0 hx3) rfl <| lq (q_fieldAddr Fld_142_0 rfl) rfl <| lq (q_load1 T1_3 rfl (fun w1 hw => (g2.of_eq 0 1 rfl rfl : rg _ _ _ [.int .i64 x3.Id]).rangeAt hw.fro)) rfl <| lq (q_assign rfl) rfl <| WL.nil ?_
   refine WT.ret Tryz.func137 (resOk.one rfl) (fun w1 hw => ?_)
   subst hb0
   cases h
   exact post_of_St hw
  replace h := ite_f h c2
  refine WT.skip <| WT.inBlock <| WT.region <| lq (q_move rfl) rfl <| lq (q_add rfl rfl) rfl <| lq (q_assign rfl) rfl <| WL.nil ?_
  refine WT.inLoop (WT.mono (l' := [(2, .pointer (some ⟨b_1, 0, none⟩)), (3, .pointer (some ⟨b_2, 0, none⟩)), (5, .int .i64 (IntKind.i64.wrap (s1 + 1)))]) (S' := St w0 Φ [(b_2, .cells #[.string p1.Kind, pv1_0] 116 (0, 0)), (b_1, .cells #[pv0_0, .int .i64 p0.Next] 52 (0, 0))] []) ⟨rfl, rfl, rfl, trivial⟩ (fun w1 hw => (hw.sel (js := []) rfl).selO (js := [0, 0]) rfl) ?_)
  exact ih1 (IntKind.i64.wrap (s1 + 1)) h
 replace h := ite_f h c1
 refine WT.exit rfl <| WT.seq <| WT.region <| lq (q_assign rfl) rfl <| WL.nil ?_
 refine WT.ret Tryz.func137 (resOk.one rfl) (fun w1 hw => ?_)
 subst hb0
 cases h
 exact post_of_St hw
theorem m_s_l4Assert_ok {Φ : Hp} {w : World} (hΦ : In Φ w) (N : Nat) (p0 : TStore) (p1 : TFact) {pv0_0 : Value} {pD0_0 : List Nat} {pb0 : Nat} {pv1_0 : Value} {pG1_0 : List Nat} (ph0_0 : OSl RTItem 142 3 Φ pD0_0 pv0_0 p0.Items) (pp0 : Φ pb0 = some (.cells #[pv0_0, .int .i64 p0.Next] 52 (0, 0))) (ph1_0 : RSl RTVal 3 Φ pG1_0 pv1_0 p1.Fields) (pd0_0 : Dj pD0_0 [[pb0], ob pv0_0].flatten) (pd1_0 : Dj pG1_0 [[pb0], ob pv0_0].flatten) (hB : [[pb0], ob pv0_0].flatten.Nodup) (hlt : ∀ k ∈ [[pb0], ob pv0_0].flatten, k < w.heap.size) {r : Int × TStore} (h : m_s_l4Assert N p0 p1 = some r) :
  Calls Tryz.prog 121 [.pointer (some ⟨pb0, 0, none⟩), .agg [.string p1.Kind, pv1_0].toArray].toArray w (PostG Φ w [[pb0], ob pv0_0].flatten (fun Φ' Fs v => ∃ (so_0_0 : Value) (Do_0_0 : List Nat) (X : List Nat), v = .int .i64 r.1 ∧ Fs = [[pb0], ob so_0_0, X] ∧ OSl RTItem 142 3 Φ' Do_0_0 so_0_0 r.2.Items ∧ (∀ k ∈ Do_0_0, k ∈ (X ++ pD0_0)) ∧ Φ' pb0 = some (.cells #[so_0_0, .int .i64 r.2.Next] 52 (0, 0)))) := by
 refine enter Tryz.func121 rfl Tryz.ntmps121 rfl (St.start hΦ [[pb0], ob pv0_0] hB hlt) ?_
 have pa0_0 : Old ⟨w, [[pb0], ob pv0_0].flatten, Φ⟩ pD0_0 := Old.mk hΦ ph0_0.kn pd0_0
 revert pa0_0
 generalize hb0 : (⟨w, [[pb0], ob pv0_0].flatten, Φ⟩ : Base) = w0
 intro pa0_0
 unfold m_s_l4Assert at h
 refine WT.seq <| WT.region ?_
 refine ln (n_box (C := #[.string p1.Kind, pv1_0]) rfl rfl) rfl (fun b_1 => ?_)
 refine lq (q_assign rfl) rfl <| WL.nil <| WT.seq <| WT.draw mixed (by kernel_rfl) (fun _ h => h.drew) <| qq (q_move rfl) rfl <| qq (q_nilCheck rfl) rfl <| qq (q_loadN Tn_52 rfl (fun w1 hw => ((rg_cells pp0).of_eq 0 2 rfl rfl : rg _ _ _ [pv0_0, .int .i64 p0.Next]).rangeAt hw.fro) rfl) rfl <| qq (q_loadN Tn_116 rfl (fun w1 hw => hw.rgO (i := 0) rfl 0 2 [.string p1.Kind, pv1_0] rfl) rfl) rfl ?_
 obtain ⟨x1, hx1, h⟩ := bind_some h
 refine qp (p_call Fun_137 rfl (fun w1 hw => m_s_IdOf_ok hw.fro N p0 p1 ph0_0.rsl ph1_0 hx1)) rfl <| qq (q_assign rfl) rfl <| WQ.nil <| WT.seq <| WT.seq <| WT.region <| lq (q_move rfl) rfl <| lq (q_gtr rfl rfl) rfl <| WL.nil ?_
 refine WT.cond rfl (fun c1 => ?_) (fun c1 => ?_)
 ·replace h := ite_t h c1
  refine WT.seq <| WT.region <| lq (q_move rfl) rfl <| lq (q_assign rfl) rfl <| WL.nil ?_
  refine WT.ret Tryz.func121 (resOk.one rfl) (fun w1 hw => ?_)
  subst hb0
  cases h
  replace hw := hw.addNil
  refine postG_of_St (js := [1, 1, 0]) hw rfl ⟨pv0_0, pD0_0, [], rfl, rfl, ph0_0, (fun k hk => (List.mem_append.2 (.inr hk))), pp0⟩
 replace h := ite_f h c1
 refine WT.skip <| WT.seq <| WT.seq <| WT.region <| lq (q_move rfl) rfl <| lq (q_nilCheck rfl) rfl <| lq (q_fieldAddr Fld_52_0 rfl) rfl <| lq (q_load1 T1_50 rfl (fun w1 hw => ((rg_cells pp0).of_eq 0 1 rfl rfl : rg _ _ _ [pv0_0]).rangeAt hw.fro)) rfl <| lq (q_lenR Sl_50 rfl rfl ph0_0.rsl) rfl <| lq (q_geq rfl rfl) rfl <| lq (q_move rfl) rfl ?_
 obtain ⟨b1, hb_1, h⟩ := bind_some h
 refine WL.cutN 6 [(26, .bool b1), (0, .pointer (some ⟨pb0, 0, none⟩)), (3, .pointer (some ⟨b_1, 0, none⟩))] ?_ (fun K => ?_)
 rotate_left
 ·refine WL.split (d := 20) rfl (fun c2 => ?_) (fun c2 => ?_)
  ·replace hb_1 := ite_t hb_1 c2
   refine WL.no rfl rfl rfl rfl <| WL.no rfl rfl rfl rfl <| WL.no rfl rfl rfl rfl <| WL.no rfl rfl rfl rfl <| WL.no rfl rfl rfl rfl <| WL.q (q_pick1 rfl rfl) rfl rfl rfl ?_
   cases hb_1
   exact WL.keep (by exact ⟨rfl, rfl, rfl, trivial⟩) K
  ·replace hb_1 := ite_f hb_1 c2
   refine WL.yes rfl rfl <| lq (q_move rfl) rfl <| WL.yes rfl rfl <| lq (q_nilCheck rfl) rfl <| WL.yes rfl rfl <| lq (q_fieldAddr Fld_52_1 rfl) rfl <| WL.yes rfl rfl <| lq (q_load1 T1_3 rfl (fun w1 hw => ((rg_cells pp0).of_eq 1 1 rfl rfl : rg _ _ _ [.int .i64 p0.Next]).rangeAt hw.fro)) rfl <| WL.yes rfl rfl <| lq (q_geq rfl rfl) rfl <| WL.q (q_pick0 rfl rfl) rfl rfl rfl ?_
   cases hb_1
   exact WL.keep (by exact ⟨rfl, rfl, rfl, trivial⟩) K
 refine WL.nil ?_
 refine WT.cond rfl (fun c3 => ?_) (fun c3 => ?_)
 ·replace h := ite_t h c3
  refine WT.seq <| WT.region <| lq (q_assign rfl) rfl <| WL.nil ?_
  refine WT.ret Tryz.func121 (resOk.one rfl) (fun w1 hw => ?_)
  subst hb0
  cases h
  replace hw := hw.addNil
  refine postG_of_St (js := [1, 1, 0]) hw rfl ⟨pv0_0, pD0_0, [], rfl, rfl, ph0_0, (fun k hk => (List.mem_append.2 (.inr hk))), pp0⟩
 replace h := ite_f h c3
 refine WT.skip <| WT.seq <| WT.mix (Kn Φ [pb0] [(b_1, .cells #[.string p1.Kind, pv1_0] 116 (0, 0))]) (fun i => match i with | 16 => false | _ => true) mixed (fun _ h => h.drew) <| mq 0 rfl (by kernel_rfl) (fun w1 hw => Kn.of (fun _ _ _ h => h) (AllIn.mem ⟨gM 0 rfl, trivial⟩) hw) (q_move rfl) rfl <| mq 1 rfl (by kernel_rfl) (fun w1 hw => Kn.of (fun _ _ _ h => h) (AllIn.mem ⟨gM 0 rfl, trivial⟩) hw) (q_move rfl) rfl ?_
 refine mq 2 rfl (by kernel_rfl) (fun w1 hw => Kn.of (fun _ _ _ h => h) (AllIn.mem ⟨gM 0 rfl, trivial⟩) hw) (q_nilCheck rfl) rfl <| mq 3 rfl (by kernel_rfl) (fun w1 hw => Kn.of (fun _ _ _ h => h) (AllIn.mem ⟨gM 0 rfl, trivial⟩) hw) (q_fieldAddr Fld_52_0 rfl) rfl <| mq 4 rfl (by kernel_rfl) (fun w1 hw => Kn.of (fun _ _ _ h => h) (AllIn.mem ⟨gM 0 rfl, trivial⟩) hw) (q_load1 T1_50 rfl (fun w1 hw => hw.rg (by simp) ((rg_cells pp0).of_eq 0 1 rfl rfl : rg _ _ _ [pv0_0]))) rfl ?_
 refine mq 5 rfl (by kernel_rfl) (fun w1 hw => Kn.of (fun _ _ _ h => h) (AllIn.mem ⟨gM 0 rfl, trivial⟩) hw) (q_move rfl) rfl <| mq 6 rfl (by kernel_rfl) (fun w1 hw => Kn.of (fun _ _ _ h => h) (AllIn.mem ⟨gM 0 rfl, trivial⟩) hw) (q_nilCheck rfl) rfl <| mq 7 rfl (by kernel_rfl) (fun w1 hw => Kn.of (fun _ _ _ h => h) (AllIn.mem ⟨gM 0 rfl, trivial⟩) hw) (q_fieldAddr Fld_52_1 rfl) rfl ?_
 refine mq 8 rfl (by kernel_rfl) (fun w1 hw => Kn.of (fun _ _ _ h => h) (AllIn.mem ⟨gM 0 rfl, trivial⟩) hw) (q_load1 T1_3 rfl (fun w1 hw => hw.rg (by simp) ((rg_cells pp0).of_eq 1 1 rfl rfl : rg _ _ _ [.int .i64 p0.Next]))) rfl <| mq 9 rfl (by kernel_rfl) (fun w1 hw => Kn.of (fun _ _ _ h => h) (AllIn.mem ⟨gM 0 rfl, trivial⟩) hw) (q_loadN Tn_116 rfl (fun w1 hw => hw.rgO (i := 0) rfl 0 2 [.string p1.Kind, pv1_0] rfl) rfl) rfl ?_
 obtain ⟨x2, hx2, h⟩ := bind_some h
 refine WM.one 10 (by kernel_rfl) (mc rfl (fun _ v Φx D w1 hq hw => Kn.of (fun k hk o ho => hq.2.1 k o ((hq.1.r (i := 0) rfl) k hk) ((fun _ _ _ h => h) k hk o ho)) (AllIn.mem ⟨gM 0 rfl, trivial⟩) hw) (k_call (js := []) (R := [[pb0], ob pv0_0]) Fun_128 rfl rfl (fun w1 hw ap hl => m_s_l3Copy_ok hw.fro N p1 ph1_0  hx2)) rfl (fun v1 Φ_1 F1 q1 => ?_))
 obtain ⟨ap1, fr1, v2, rfl, rfl, h1⟩ := q1
 replace ph0_0 := ph0_0.frame RTItem.lasts fr1 (ap1.r (i := 1) rfl) (ap1.o pa0_0)
 replace pp0 := fr1 _ _ ((ap1.r (i := 0) rfl) _ (by simp)) pp0
 refine mq 11 rfl (by kernel_rfl) (fun w1 hw => Kn.of (fun k hk o ho => fr1 k o ((ap1.r (i := 0) rfl) k hk) ((fun _ _ _ h => h) k hk o ho)) (AllIn.mem ⟨gM 0 rfl, trivial⟩) hw) (q_build (vs := [(0, .int .i64 p0.Next), (1, .agg [.string x2.Kind, v2].toArray)]) (C := #[.int .i64 p0.Next, .string x2.Kind, v2]) Pl_142 Zr_142 rfl (fill_cons (cells := [.int .i64 0, .string ⟨#[]⟩, .slice none 0 0]) (c := [.int .i64 p0.Next]) (C' := [.int .i64 p0.Next, .string ⟨#[]⟩, .slice none 0 0]) rfl rfl rfl rfl rfl (fill_cons (cells := [.int .i64 p0.Next, .string ⟨#[]⟩, .slice none 0 0]) (c := [.string x2.Kind, v2]) (C' := [.int .i64 p0.Next, .string x2.Kind, v2]) rfl rfl rfl rfl rfl (fill_nil)))) rfl ?_
 have rc1 : RC OTItem 3 Φ_1 ([(ob v2 ++ [])] : List (List Nat)) [.int .i64 p0.Next, .string x2.Kind, v2] ([(⟨p0.Next, x2⟩ : TItem)] : List TItem) := RC.cons (c := [.int .i64 p0.Next, .string x2.Kind, v2]) (cells := []) ⟨v2, rfl, rfl, h1⟩ rfl (RC.nil _ _ _)
 refine WM.one 12 (by kernel_rfl) (me rfl (fun _ v Φx D w1 hq hw => Kn.of (fun k hk o ho => hq.1 k o (by simp) ((fun k hk o ho => fr1 k o ((ap1.r (i := 0) rfl) k hk) ((fun _ _ _ h => h) k hk o ho)) k hk o ho)) (AllIn.mem ⟨gM 0 rfl, trivial⟩) hw) (e_lit (vs := [(0, .agg [.int .i64 p0.Next, .string x2.Kind, v2].toArray)]) (C := #[.int .i64 p0.Next, .string x2.Kind, v2]) OTItem.lasts Sl_50 Zr_142 rfl rfl rfl rfl (fill_made MC_142_1 (fill_cons (cells := [.int .i64 0, .string ⟨#[]⟩, .slice none 0 0]) (c := [.int .i64 p0.Next, .string x2.Kind, v2]) (C' := [.int .i64 p0.Next, .string x2.Kind, v2]) rfl rfl rfl rfl rfl (fill_nil))) rfl rc1 rfl (RC.kn OTItem.knows rc1)) rfl (fun v3 Φ_2 D1 q2 => ?_))
 obtain ⟨fr2, h2⟩ := q2
 replace h2 : OSl OTItem 142 3 Φ_2 ((ob v2 ++ [])) v3 ([(⟨p0.Next, x2⟩ : TItem)] : List TItem) := by simpa [List.append_assoc] using h2
 replace ph0_0 := ph0_0.frame RTItem.lasts fr2 (Dj.empty _) (Dj.empty _)
 replace pp0 := fr2 _ _ (by simp) pp0
 refine WM.conv (S' := St w0 Φ_2 [(b_1, .cells #[.string p1.Kind, pv1_0] 116 (0, 0))] [((ob v2 ++ [])), ob v3, [pb0], ob pv0_0]) (fun w1 hw => hw.merge (js := [1]) rfl (SP.eq (by simp [List.append_assoc, ob_nil]))) ?_
 obtain ⟨x3, hx3, h⟩ := bind_some h
 refine WM.one 13 (by kernel_rfl) (me rfl (fun _ v Φx D w1 hq hw => Kn.of (fun k hk o ho => hq.1.2 k o ((hq.1.1.r (i := 2) rfl) k hk) ((fun k hk o ho => fr2 k o (by simp) ((fun k hk o ho => fr1 k o ((ap1.r (i := 0) rfl) k hk) ((fun _ _ _ h => h) k hk o ho)) k hk o ho)) k hk o ho)) (AllIn.mem ⟨gM 0 rfl, trivial⟩) hw) (e_appO RTItem.lasts RTItem.one Sl_50 Ei_142 rfl rfl rfl rfl rfl (js := [3]) (Rr := [((ob v2 ++ [])), ob v3, [pb0]]) rfl ph0_0 (h2.gives OTItem.gives) (fun ap => (ap.o pa0_0)) (fun ap => (ap.r (i := 0) rfl)) hx3) rfl (fun v4 Φ_3 D2 q3 => ?_))
 obtain ⟨⟨ap2, fr3⟩, h3⟩ := q3
 replace pp0 := fr3 _ _ ((ap2.r (i := 2) rfl) _ (by simp)) pp0
 refine mqT 14 [15, 16] rfl (by kernel_rfl) (fun w1 hw => Kn.of (fun k hk o ho => fr3 k o ((ap2.r (i := 2) rfl) k hk) ((fun k hk o ho => fr2 k o (by simp) ((fun k hk o ho => fr1 k o ((ap1.r (i := 0) rfl) k hk) ((fun _ _ _ h => h) k hk o ho)) k hk o ho)) k hk o ho)) (AllIn.mem ⟨gM 0 rfl, trivial⟩) hw) (q_nilCheck rfl) rfl <| mq 15 rfl (by kernel_rfl) (fun w1 hw => Kn.of (fun k hk o ho => fr3 k o ((ap2.r (i := 2) rfl) k hk) ((fun k hk o ho => fr2 k o (by simp) ((fun k hk o ho => fr1 k o ((ap1.r (i := 0) rfl) k hk) ((fun _ _ _ h => h) k hk o ho)) k hk o ho)) k hk o ho)) (AllIn.mem ⟨gM 0 rfl, trivial⟩) hw) (q_fieldAddr Fld_52_0 rfl) rfl ?_
 refine WM.thw (js := [3]) (R := [ob v4, ((ob v2 ++ [])), ob v3]) rfl pp0 (fun Φ_4 ap3 fr4 => ?_)
 replace h3 := h3.frame RTItem.lasts fr4 (ap3.r (i := 0) rfl) (Dj.app (ap3.o pa0_0) (ap3.r (i := 1) rfl))
 refine WM.one 16 (by kernel_rfl) (ms rfl (fun hc => by cases hc) (s_store (i := 0) (vs := [v4]) (C' := [v4, .int .i64 p0.Next]) (O' := [(pb0, .cells #[v4, .int .i64 p0.Next] 52 (0, 0)), (b_1, .cells #[.string p1.Kind, pv1_0] 116 (0, 0))]) Sz_50 rfl rfl rfl (one_cells h3.one) rfl rfl ⟨h3.one, trivial⟩ rfl rfl) rfl ?_)
 refine WM.nil (by kernel_rfl) <| WT.seq <| WT.region <| lq (q_move rfl) rfl <| lq (q_move rfl) rfl <| lq (q_nilCheck rfl) rfl <| lq (q_fieldAddr Fld_52_1 rfl) rfl <| lq (q_load1 T1_3 rfl (fun w1 hw => hw.rgO (i := 0) rfl 1 1 [.int .i64 p0.Next] rfl)) rfl <| lq (q_add rfl rfl) rfl <| lq (q_nilCheck rfl) rfl <| lq (q_fieldAddr Fld_52_1 rfl) rfl <| ls (s_store (i := 0) (vs := [.int .i64 (IntKind.i64.wrap (p0.Next + 1))]) (C' := [v4, .int .i64 (IntKind.i64.wrap (p0.Next + 1))]) (O' := [(pb0, .cells #[v4, .int .i64 (IntKind.i64.wrap (p0.Next + 1))] 52 (0, 0)), (b_1, .cells #[.string p1.Kind, pv1_0] 116 (0, 0))]) Sz_3 rfl rfl rfl rfl rfl rfl ⟨rfl, trivial⟩ rfl rfl) rfl ?_
 refine WL.nil <| WT.seq <| WT.region <| lq (q_move rfl) rfl <| lq (q_nilCheck rfl) rfl <| lq (q_fieldAddr Fld_52_1 rfl) rfl <| lq (q_load1 T1_3 rfl (fun w1 hw => hw.rgO (i := 0) rfl 1 1 [.int .i64 (IntKind.i64.wrap (p0.Next + 1))] rfl)) rfl <| lq (q_sub rfl rfl) rfl <| lq (q_assign rfl) rfl <| WL.nil ?_
 refine WT.frz (js := [0]) (R := [(b_1, .cells #[.string p1.Kind, pv1_0] 116 (0, 0))]) rfl (fun Φ_5 fr5 k1 => ?_)
 replace h3 := h3.frame RTItem.lasts fr5 (Dj.empty _) (Dj.empty _)
 refine WT.ret Tryz.func121 (resOk.one rfl) (fun w1 hw => ?_)
 subst hb0
 cases h
 replace hw := hw.merge (js := [2]) (F := [((ob v2 ++ []))].flatten) rfl (SP.eq (by simp))
 refine postG_of_St (js := [1, 1, 0]) hw rfl ⟨v4, (pD0_0 ++ ((ob v2 ++ []))), [((ob v2 ++ []))].flatten, rfl, rfl, h3, (fun k hk => ((List.mem_append.1 hk).elim (fun h => (List.mem_append.2 (.inr h))) (fun h => (List.mem_append.2 (.inl (List.mem_flatten.2 ⟨((ob v2 ++ [])), by simp, h⟩)))))), k1⟩
end Go.Proofs.YtjangilipfjcmaaGreat
