/- Printed by a program of ours: each Go function computes its Lean function. -/
import Derived.Test.YtjangilipfjcmaaProg
import Derived.Test.YtjangilipfjcmaaWExactPickMatchWalk2
namespace Go.Proofs.Ytjangilipfjcmaa
open Eng
open Go.RowKit (Below)
set_option linter.unusedVariables false
set_option linter.unusedSimpArgs false

set_option maxRecDepth 100000
set_option maxHeartbeats 1000000
theorem m_l_markExprS_ok {Φ : Hp} {w : World} (hΦ : In Φ w) (N : Nat) (p0 : (List TExpr)) (p1 : Int) {pv0 : Value} (ph0 : OSl RTExpr 197 11 Φ [] pv0 p0) (hB : [ob pv0].flatten.Nodup) (hlt : ∀ k ∈ [ob pv0].flatten, k < w.heap.size) {r : Int × (List TExpr)} (h : m_l_markExprS N p0 p1 = some r) :
    Calls Try.prog 117 [pv0, .int .i64 p1].toArray w (PostG Φ w [ob pv0].flatten (fun Φ' Fs v => v = .int .i64 r.1 ∧ Fs = [ob pv0] ∧ OSl RTExpr 197 11 Φ' [] pv0 r.2)) := by
  refine enter Try.func117 rfl Try.ntmps117 rfl (St.start hΦ [ob pv0] hB hlt) ?_
  generalize hb0 : (⟨w, [ob pv0].flatten, Φ⟩ : Base) = w0
  unfold m_l_markExprS at h
  refine WT.seq ?_
  refine WT.region ?_
  refine lq (q_assign rfl) rfl ?_
  refine WL.nil ?_
  refine WT.seq ?_
  refine WT.seq ?_
  refine WT.region ?_
  refine lq (q_assign rfl) rfl ?_
  refine WL.nil ?_
  refine WT.block ?_
  refine WT.loop ?_
  refine WT.mono (l' := [(0, pv0), (1, .int .i64 p1), (5, .int .i64 0)]) (S' := St w0 Φ [] [ob pv0]) ⟨rfl, rfl, rfl, trivial⟩ (fun w1 hw => (hw.sel (js := [0]) rfl).selO (js := []) rfl) ?_
  refine loop_ind (σ := Hp × (List TExpr) × Int × Int) (fun s => [(0, pv0), (1, .int .i64 s.2.2.1), (5, .int .i64 s.2.2.2)]) (fun s => St w0 s.1 [] [ob pv0]) (fun m s => m_l_markExprS_l1 N m s.2.1 s.2.2.1 s.2.2.2 = some r ∧ (OSl RTExpr 197 11 s.1 [] pv0 s.2.1)) (fun s hm => none_ne (show (none : Option (Int × (List TExpr))) = some r from hm.1)) (fun n1 ih1 s hm => ?_) N (Φ, p0, p1, 0) ⟨h, ph0⟩
  obtain ⟨Φ_1, s1, s2, s3⟩ := s
  obtain ⟨h, k1⟩ := hm
  replace h : m_l_markExprS_l1 N (n1 + 1) s1 s2 s3 = some r := h
  replace k1 : OSl RTExpr 197 11 Φ_1 [] pv0 s1 := k1
  show WT _ _ [(0, pv0), (1, .int .i64 s2), (5, .int .i64 s3)] (St w0 Φ_1 [] [ob pv0])
  unfold m_l_markExprS_l1 at h
  refine WT.seq ?_
  refine WT.seq ?_
  refine WT.region ?_
  refine lq (q_move rfl) rfl ?_
  refine lq (q_move rfl) rfl ?_
  refine lq (q_lenR Sl_144 rfl rfl k1.rsl) rfl ?_
  refine lq (q_lss rfl rfl) rfl ?_
  refine WL.nil ?_
  refine WT.cond rfl (fun c1 => ?_) (fun c1 => ?_)
  · replace h := ite_t h c1
    refine WT.skip ?_
    refine WT.seq ?_
    refine WT.block ?_
    refine WT.seq ?_
    refine WT.region ?_
    refine lq (q_move rfl) rfl ?_
    refine lq (q_move rfl) rfl ?_
    refine lq (q_move rfl) rfl ?_
    obtain ⟨x1, hx1, h⟩ := bind_some h
    refine lp (p_call Fun_69 rfl (fun w1 hw => m_l_markText_ok hw.fro N s2 hx1)) rfl ?_
    obtain ⟨x2, hx2, h⟩ := bind_some h
    obtain ⟨cs1, F1, h1, r1⟩ := k1.focusF RTExpr.flat hx2
    obtain ⟨rfl, -⟩ := r1
    refine lq (q_indexAddrH Sl_144 rfl rfl h1 hx2) rfl ?_
    refine lq (q_fieldAddr Fld_197_0 rfl) rfl ?_
    refine lu (u_setH (js := [0]) (Rr := []) (o := 0) (vs := [.string x1]) (cs' := [.string x1, .int .i64 x2.L.K, .string x2.L.S, .int .i64 x2.L.V.K, .int .i64 x2.L.V.N, .string x2.L.V.S, .int .i64 x2.R.K, .string x2.R.S, .int .i64 x2.R.V.K, .int .i64 x2.R.V.N, .string x2.R.V.S]) RTExpr.lasts Sz_9 rfl rfl rfl rfl ⟨rfl, trivial⟩ rfl h1 rfl rfl (fun ap => (Dj.nil _))) rfl (fun Φ_2 D2 q1 => ?_)
    obtain ⟨⟨ap1, fr1⟩, h2⟩ := q1
    refine WL.nil ?_
    refine WT.seq ?_
    refine WT.region ?_
    refine lq (q_move rfl) rfl ?_
    refine lq (q_add rfl rfl) rfl ?_
    refine lq (q_assign rfl) rfl ?_
    refine WL.nil ?_
    refine WT.seq ?_
    refine WT.region ?_
    refine lq (q_move rfl) rfl ?_
    refine lq (q_move rfl) rfl ?_
    refine lq (q_move rfl) rfl ?_
    refine lq (q_indexAddrH Sl_144 rfl rfl h2 hx2) rfl ?_
    refine lq (q_fieldAddr Fld_197_1 rfl) rfl ?_
    refine lq (q_fieldAddr Fld_140_0 rfl) rfl ?_
    refine lu (u_setH (js := [0]) (Rr := []) (o := 1) (vs := [.int .i64 (IntKind.i64.wrap (s2 + 1))]) (cs' := [.string x1, .int .i64 (IntKind.i64.wrap (s2 + 1)), .string x2.L.S, .int .i64 x2.L.V.K, .int .i64 x2.L.V.N, .string x2.L.V.S, .int .i64 x2.R.K, .string x2.R.S, .int .i64 x2.R.V.K, .int .i64 x2.R.V.N, .string x2.R.V.S]) RTExpr.lasts Sz_3 rfl rfl rfl rfl ⟨rfl, trivial⟩ rfl h2 rfl rfl (fun ap => (Dj.nil _))) rfl (fun Φ_3 D3 q2 => ?_)
    obtain ⟨⟨ap2, fr2⟩, h3⟩ := q2
    refine WL.nil ?_
    refine WT.seq ?_
    refine WT.region ?_
    refine lq (q_move rfl) rfl ?_
    refine lq (q_add rfl rfl) rfl ?_
    refine lq (q_assign rfl) rfl ?_
    refine WL.nil ?_
    refine WT.seq ?_
    refine WT.region ?_
    refine lq (q_move rfl) rfl ?_
    refine lq (q_move rfl) rfl ?_
    refine lq (q_move rfl) rfl ?_
    obtain ⟨x3, hx3, h⟩ := bind_some h
    refine lp (p_call Fun_69 rfl (fun w1 hw => m_l_markText_ok hw.fro N (IntKind.i64.wrap ((IntKind.i64.wrap (s2 + 1)) + 1)) hx3)) rfl ?_
    refine lq (q_indexAddrH Sl_144 rfl rfl h3 hx2) rfl ?_
    refine lq (q_fieldAddr Fld_197_1 rfl) rfl ?_
    refine lq (q_fieldAddr Fld_140_1 rfl) rfl ?_
    refine lu (u_setH (js := [0]) (Rr := []) (o := 2) (vs := [.string x3]) (cs' := [.string x1, .int .i64 (IntKind.i64.wrap (s2 + 1)), .string x3, .int .i64 x2.L.V.K, .int .i64 x2.L.V.N, .string x2.L.V.S, .int .i64 x2.R.K, .string x2.R.S, .int .i64 x2.R.V.K, .int .i64 x2.R.V.N, .string x2.R.V.S]) RTExpr.lasts Sz_9 rfl rfl rfl rfl ⟨rfl, trivial⟩ rfl h3 rfl rfl (fun ap => (Dj.nil _))) rfl (fun Φ_4 D4 q3 => ?_)
    obtain ⟨⟨ap3, fr3⟩, h4⟩ := q3
    refine WL.nil ?_
    refine WT.seq ?_
    refine WT.region ?_
    refine lq (q_move rfl) rfl ?_
    refine lq (q_add rfl rfl) rfl ?_
    refine lq (q_assign rfl) rfl ?_
    refine WL.nil ?_
    refine WT.seq ?_
    refine WT.region ?_
    refine lq (q_move rfl) rfl ?_
    refine lq (q_move rfl) rfl ?_
    refine lq (q_move rfl) rfl ?_
    refine lq (q_indexAddrH Sl_144 rfl rfl h4 hx2) rfl ?_
    refine lq (q_fieldAddr Fld_197_1 rfl) rfl ?_
    refine lq (q_fieldAddr Fld_140_2 rfl) rfl ?_
    refine lq (q_fieldAddr Fld_109_0 rfl) rfl ?_
    refine lu (u_setH (js := [0]) (Rr := []) (o := 3) (vs := [.int .i64 (IntKind.i64.wrap ((IntKind.i64.wrap ((IntKind.i64.wrap (s2 + 1)) + 1)) + 1))]) (cs' := [.string x1, .int .i64 (IntKind.i64.wrap (s2 + 1)), .string x3, .int .i64 (IntKind.i64.wrap ((IntKind.i64.wrap ((IntKind.i64.wrap (s2 + 1)) + 1)) + 1)), .int .i64 x2.L.V.N, .string x2.L.V.S, .int .i64 x2.R.K, .string x2.R.S, .int .i64 x2.R.V.K, .int .i64 x2.R.V.N, .string x2.R.V.S]) RTExpr.lasts Sz_3 rfl rfl rfl rfl ⟨rfl, trivial⟩ rfl h4 rfl rfl (fun ap => (Dj.nil _))) rfl (fun Φ_5 D5 q4 => ?_)
    obtain ⟨⟨ap4, fr4⟩, h5⟩ := q4
    refine WL.nil ?_
    refine WT.seq ?_
    refine WT.region ?_
    refine lq (q_move rfl) rfl ?_
    refine lq (q_add rfl rfl) rfl ?_
    refine lq (q_assign rfl) rfl ?_
    refine WL.nil ?_
    refine WT.seq ?_
    refine WT.region ?_
    refine lq (q_move rfl) rfl ?_
    refine lq (q_move rfl) rfl ?_
    refine lq (q_move rfl) rfl ?_
    refine lq (q_indexAddrH Sl_144 rfl rfl h5 hx2) rfl ?_
    refine lq (q_fieldAddr Fld_197_1 rfl) rfl ?_
    refine lq (q_fieldAddr Fld_140_2 rfl) rfl ?_
    refine lq (q_fieldAddr Fld_109_1 rfl) rfl ?_
    refine lu (u_setH (js := [0]) (Rr := []) (o := 4) (vs := [.int .i64 (IntKind.i64.wrap ((IntKind.i64.wrap ((IntKind.i64.wrap ((IntKind.i64.wrap (s2 + 1)) + 1)) + 1)) + 1))]) (cs' := [.string x1, .int .i64 (IntKind.i64.wrap (s2 + 1)), .string x3, .int .i64 (IntKind.i64.wrap ((IntKind.i64.wrap ((IntKind.i64.wrap (s2 + 1)) + 1)) + 1)), .int .i64 (IntKind.i64.wrap ((IntKind.i64.wrap ((IntKind.i64.wrap ((IntKind.i64.wrap (s2 + 1)) + 1)) + 1)) + 1)), .string x2.L.V.S, .int .i64 x2.R.K, .string x2.R.S, .int .i64 x2.R.V.K, .int .i64 x2.R.V.N, .string x2.R.V.S]) RTExpr.lasts Sz_3 rfl rfl rfl rfl ⟨rfl, trivial⟩ rfl h5 rfl rfl (fun ap => (Dj.nil _))) rfl (fun Φ_6 D6 q5 => ?_)
    obtain ⟨⟨ap5, fr5⟩, h6⟩ := q5
    refine WL.nil ?_
    refine WT.seq ?_
    refine WT.region ?_
    refine lq (q_move rfl) rfl ?_
    refine lq (q_add rfl rfl) rfl ?_
    refine lq (q_assign rfl) rfl ?_
    refine WL.nil ?_
    refine WT.seq ?_
    refine WT.region ?_
    refine lq (q_move rfl) rfl ?_
    refine lq (q_move rfl) rfl ?_
    refine lq (q_move rfl) rfl ?_
    obtain ⟨x4, hx4, h⟩ := bind_some h
    refine lp (p_call Fun_69 rfl (fun w1 hw => m_l_markText_ok hw.fro N (IntKind.i64.wrap ((IntKind.i64.wrap ((IntKind.i64.wrap ((IntKind.i64.wrap ((IntKind.i64.wrap (s2 + 1)) + 1)) + 1)) + 1)) + 1)) hx4)) rfl ?_
    refine lq (q_indexAddrH Sl_144 rfl rfl h6 hx2) rfl ?_
    refine lq (q_fieldAddr Fld_197_1 rfl) rfl ?_
    refine lq (q_fieldAddr Fld_140_2 rfl) rfl ?_
    refine lq (q_fieldAddr Fld_109_2 rfl) rfl ?_
    refine lu (u_setH (js := [0]) (Rr := []) (o := 5) (vs := [.string x4]) (cs' := [.string x1, .int .i64 (IntKind.i64.wrap (s2 + 1)), .string x3, .int .i64 (IntKind.i64.wrap ((IntKind.i64.wrap ((IntKind.i64.wrap (s2 + 1)) + 1)) + 1)), .int .i64 (IntKind.i64.wrap ((IntKind.i64.wrap ((IntKind.i64.wrap ((IntKind.i64.wrap (s2 + 1)) + 1)) + 1)) + 1)), .string x4, .int .i64 x2.R.K, .string x2.R.S, .int .i64 x2.R.V.K, .int .i64 x2.R.V.N, .string x2.R.V.S]) RTExpr.lasts Sz_9 rfl rfl rfl rfl ⟨rfl, trivial⟩ rfl h6 rfl rfl (fun ap => (Dj.nil _))) rfl (fun Φ_7 D7 q6 => ?_)
    obtain ⟨⟨ap6, fr6⟩, h7⟩ := q6
    refine WL.nil ?_
    refine WT.seq ?_
    refine WT.region ?_
    refine lq (q_move rfl) rfl ?_
    refine lq (q_add rfl rfl) rfl ?_
    refine lq (q_assign rfl) rfl ?_
    refine WL.nil ?_
    refine WT.seq ?_
    refine WT.region ?_
    refine lq (q_move rfl) rfl ?_
    refine lq (q_move rfl) rfl ?_
    refine lq (q_move rfl) rfl ?_
    refine lq (q_indexAddrH Sl_144 rfl rfl h7 hx2) rfl ?_
    refine lq (q_fieldAddr Fld_197_2 rfl) rfl ?_
    refine lq (q_fieldAddr Fld_140_0 rfl) rfl ?_
    refine lu (u_setH (js := [0]) (Rr := []) (o := 6) (vs := [.int .i64 (IntKind.i64.wrap ((IntKind.i64.wrap ((IntKind.i64.wrap ((IntKind.i64.wrap ((IntKind.i64.wrap ((IntKind.i64.wrap (s2 + 1)) + 1)) + 1)) + 1)) + 1)) + 1))]) (cs' := [.string x1, .int .i64 (IntKind.i64.wrap (s2 + 1)), .string x3, .int .i64 (IntKind.i64.wrap ((IntKind.i64.wrap ((IntKind.i64.wrap (s2 + 1)) + 1)) + 1)), .int .i64 (IntKind.i64.wrap ((IntKind.i64.wrap ((IntKind.i64.wrap ((IntKind.i64.wrap (s2 + 1)) + 1)) + 1)) + 1)), .string x4, .int .i64 (IntKind.i64.wrap ((IntKind.i64.wrap ((IntKind.i64.wrap ((IntKind.i64.wrap ((IntKind.i64.wrap ((IntKind.i64.wrap (s2 + 1)) + 1)) + 1)) + 1)) + 1)) + 1)), .string x2.R.S, .int .i64 x2.R.V.K, .int .i64 x2.R.V.N, .string x2.R.V.S]) RTExpr.lasts Sz_3 rfl rfl rfl rfl ⟨rfl, trivial⟩ rfl h7 rfl rfl (fun ap => (Dj.nil _))) rfl (fun Φ_8 D8 q7 => ?_)
    obtain ⟨⟨ap7, fr7⟩, h8⟩ := q7
    refine WL.nil ?_
    refine WT.seq ?_
    refine WT.region ?_
    refine lq (q_move rfl) rfl ?_
    refine lq (q_add rfl rfl) rfl ?_
    refine lq (q_assign rfl) rfl ?_
    refine WL.nil ?_
    refine WT.seq ?_
    refine WT.region ?_
    refine lq (q_move rfl) rfl ?_
    refine lq (q_move rfl) rfl ?_
    refine lq (q_move rfl) rfl ?_
    obtain ⟨x5, hx5, h⟩ := bind_some h
    refine lp (p_call Fun_69 rfl (fun w1 hw => m_l_markText_ok hw.fro N (IntKind.i64.wrap ((IntKind.i64.wrap ((IntKind.i64.wrap ((IntKind.i64.wrap ((IntKind.i64.wrap ((IntKind.i64.wrap ((IntKind.i64.wrap (s2 + 1)) + 1)) + 1)) + 1)) + 1)) + 1)) + 1)) hx5)) rfl ?_
    refine lq (q_indexAddrH Sl_144 rfl rfl h8 hx2) rfl ?_
    refine lq (q_fieldAddr Fld_197_2 rfl) rfl ?_
    refine lq (q_fieldAddr Fld_140_1 rfl) rfl ?_
    refine lu (u_setH (js := [0]) (Rr := []) (o := 7) (vs := [.string x5]) (cs' := [.string x1, .int .i64 (IntKind.i64.wrap (s2 + 1)), .string x3, .int .i64 (IntKind.i64.wrap ((IntKind.i64.wrap ((IntKind.i64.wrap (s2 + 1)) + 1)) + 1)), .int .i64 (IntKind.i64.wrap ((IntKind.i64.wrap ((IntKind.i64.wrap ((IntKind.i64.wrap (s2 + 1)) + 1)) + 1)) + 1)), .string x4, .int .i64 (IntKind.i64.wrap ((IntKind.i64.wrap ((IntKind.i64.wrap ((IntKind.i64.wrap ((IntKind.i64.wrap ((IntKind.i64.wrap (s2 + 1)) + 1)) + 1)) + 1)) + 1)) + 1)), .string x5, .int .i64 x2.R.V.K, .int .i64 x2.R.V.N, .string x2.R.V.S]) RTExpr.lasts Sz_9 rfl rfl rfl rfl ⟨rfl, trivial⟩ rfl h8 rfl rfl (fun ap => (Dj.nil _))) rfl (fun Φ_9 D9 q8 => ?_)
    obtain ⟨⟨ap8, fr8⟩, h9⟩ := q8
    refine WL.nil ?_
    refine WT.seq ?_
    refine WT.region ?_
    refine lq (q_move rfl) rfl ?_
    refine lq (q_add rfl rfl) rfl ?_
    refine lq (q_assign rfl) rfl ?_
    refine WL.nil ?_
    refine WT.seq ?_
    refine WT.region ?_
    refine lq (q_move rfl) rfl ?_
    refine lq (q_move rfl) rfl ?_
    refine lq (q_move rfl) rfl ?_
    refine lq (q_indexAddrH Sl_144 rfl rfl h9 hx2) rfl ?_
    refine lq (q_fieldAddr Fld_197_2 rfl) rfl ?_
    refine lq (q_fieldAddr Fld_140_2 rfl) rfl ?_
    refine lq (q_fieldAddr Fld_109_0 rfl) rfl ?_
    refine lu (u_setH (js := [0]) (Rr := []) (o := 8) (vs := [.int .i64 (IntKind.i64.wrap ((IntKind.i64.wrap ((IntKind.i64.wrap ((IntKind.i64.wrap ((IntKind.i64.wrap ((IntKind.i64.wrap ((IntKind.i64.wrap ((IntKind.i64.wrap (s2 + 1)) + 1)) + 1)) + 1)) + 1)) + 1)) + 1)) + 1))]) (cs' := [.string x1, .int .i64 (IntKind.i64.wrap (s2 + 1)), .string x3, .int .i64 (IntKind.i64.wrap ((IntKind.i64.wrap ((IntKind.i64.wrap (s2 + 1)) + 1)) + 1)), .int .i64 (IntKind.i64.wrap ((IntKind.i64.wrap ((IntKind.i64.wrap ((IntKind.i64.wrap (s2 + 1)) + 1)) + 1)) + 1)), .string x4, .int .i64 (IntKind.i64.wrap ((IntKind.i64.wrap ((IntKind.i64.wrap ((IntKind.i64.wrap ((IntKind.i64.wrap ((IntKind.i64.wrap (s2 + 1)) + 1)) + 1)) + 1)) + 1)) + 1)), .string x5, .int .i64 (IntKind.i64.wrap ((IntKind.i64.wrap ((IntKind.i64.wrap ((IntKind.i64.wrap ((IntKind.i64.wrap ((IntKind.i64.wrap ((IntKind.i64.wrap ((IntKind.i64.wrap (s2 + 1)) + 1)) + 1)) + 1)) + 1)) + 1)) + 1)) + 1)), .int .i64 x2.R.V.N, .string x2.R.V.S]) RTExpr.lasts Sz_3 rfl rfl rfl rfl ⟨rfl, trivial⟩ rfl h9 rfl rfl (fun ap => (Dj.nil _))) rfl (fun Φ_10 D10 q9 => ?_)
    obtain ⟨⟨ap9, fr9⟩, h10⟩ := q9
    refine WL.nil ?_
    refine WT.seq ?_
    refine WT.region ?_
    refine lq (q_move rfl) rfl ?_
    refine lq (q_add rfl rfl) rfl ?_
    refine lq (q_assign rfl) rfl ?_
    refine WL.nil ?_
    refine WT.seq ?_
    refine WT.region ?_
    refine lq (q_move rfl) rfl ?_
    refine lq (q_move rfl) rfl ?_
    refine lq (q_move rfl) rfl ?_
    refine lq (q_indexAddrH Sl_144 rfl rfl h10 hx2) rfl ?_
    refine lq (q_fieldAddr Fld_197_2 rfl) rfl ?_
    refine lq (q_fieldAddr Fld_140_2 rfl) rfl ?_
    refine lq (q_fieldAddr Fld_109_1 rfl) rfl ?_
    refine lu (u_setH (js := [0]) (Rr := []) (o := 9) (vs := [.int .i64 (IntKind.i64.wrap ((IntKind.i64.wrap ((IntKind.i64.wrap ((IntKind.i64.wrap ((IntKind.i64.wrap ((IntKind.i64.wrap ((IntKind.i64.wrap ((IntKind.i64.wrap ((IntKind.i64.wrap (s2 + 1)) + 1)) + 1)) + 1)) + 1)) + 1)) + 1)) + 1)) + 1))]) (cs' := [.string x1, .int .i64 (IntKind.i64.wrap (s2 + 1)), .string x3, .int .i64 (IntKind.i64.wrap ((IntKind.i64.wrap ((IntKind.i64.wrap (s2 + 1)) + 1)) + 1)), .int .i64 (IntKind.i64.wrap ((IntKind.i64.wrap ((IntKind.i64.wrap ((IntKind.i64.wrap (s2 + 1)) + 1)) + 1)) + 1)), .string x4, .int .i64 (IntKind.i64.wrap ((IntKind.i64.wrap ((IntKind.i64.wrap ((IntKind.i64.wrap ((IntKind.i64.wrap ((IntKind.i64.wrap (s2 + 1)) + 1)) + 1)) + 1)) + 1)) + 1)), .string x5, .int .i64 (IntKind.i64.wrap ((IntKind.i64.wrap ((IntKind.i64.wrap ((IntKind.i64.wrap ((IntKind.i64.wrap ((IntKind.i64.wrap ((IntKind.i64.wrap ((IntKind.i64.wrap (s2 + 1)) + 1)) + 1)) + 1)) + 1)) + 1)) + 1)) + 1)), .int .i64 (IntKind.i64.wrap ((IntKind.i64.wrap ((IntKind.i64.wrap ((IntKind.i64.wrap ((IntKind.i64.wrap ((IntKind.i64.wrap ((IntKind.i64.wrap ((IntKind.i64.wrap ((IntKind.i64.wrap (s2 + 1)) + 1)) + 1)) + 1)) + 1)) + 1)) + 1)) + 1)) + 1)), .string x2.R.V.S]) RTExpr.lasts Sz_3 rfl rfl rfl rfl ⟨rfl, trivial⟩ rfl h10 rfl rfl (fun ap => (Dj.nil _))) rfl (fun Φ_11 D11 q10 => ?_)
    obtain ⟨⟨ap10, fr10⟩, h11⟩ := q10
    refine WL.nil ?_
    refine WT.seq ?_
    refine WT.region ?_
    refine lq (q_move rfl) rfl ?_
    refine lq (q_add rfl rfl) rfl ?_
    refine lq (q_assign rfl) rfl ?_
    refine WL.nil ?_
    refine WT.seq ?_
    refine WT.region ?_
    refine lq (q_move rfl) rfl ?_
    refine lq (q_move rfl) rfl ?_
    refine lq (q_move rfl) rfl ?_
    obtain ⟨x6, hx6, h⟩ := bind_some h
    refine lp (p_call Fun_69 rfl (fun w1 hw => m_l_markText_ok hw.fro N (IntKind.i64.wrap ((IntKind.i64.wrap ((IntKind.i64.wrap ((IntKind.i64.wrap ((IntKind.i64.wrap ((IntKind.i64.wrap ((IntKind.i64.wrap ((IntKind.i64.wrap ((IntKind.i64.wrap ((IntKind.i64.wrap (s2 + 1)) + 1)) + 1)) + 1)) + 1)) + 1)) + 1)) + 1)) + 1)) + 1)) hx6)) rfl ?_
    refine lq (q_indexAddrH Sl_144 rfl rfl h11 hx2) rfl ?_
    refine lq (q_fieldAddr Fld_197_2 rfl) rfl ?_
    refine lq (q_fieldAddr Fld_140_2 rfl) rfl ?_
    refine lq (q_fieldAddr Fld_109_2 rfl) rfl ?_
    refine lu (u_setH (js := [0]) (Rr := []) (o := 10) (vs := [.string x6]) (cs' := [.string x1, .int .i64 (IntKind.i64.wrap (s2 + 1)), .string x3, .int .i64 (IntKind.i64.wrap ((IntKind.i64.wrap ((IntKind.i64.wrap (s2 + 1)) + 1)) + 1)), .int .i64 (IntKind.i64.wrap ((IntKind.i64.wrap ((IntKind.i64.wrap ((IntKind.i64.wrap (s2 + 1)) + 1)) + 1)) + 1)), .string x4, .int .i64 (IntKind.i64.wrap ((IntKind.i64.wrap ((IntKind.i64.wrap ((IntKind.i64.wrap ((IntKind.i64.wrap ((IntKind.i64.wrap (s2 + 1)) + 1)) + 1)) + 1)) + 1)) + 1)), .string x5, .int .i64 (IntKind.i64.wrap ((IntKind.i64.wrap ((IntKind.i64.wrap ((IntKind.i64.wrap ((IntKind.i64.wrap ((IntKind.i64.wrap ((IntKind.i64.wrap ((IntKind.i64.wrap (s2 + 1)) + 1)) + 1)) + 1)) + 1)) + 1)) + 1)) + 1)), .int .i64 (IntKind.i64.wrap ((IntKind.i64.wrap ((IntKind.i64.wrap ((IntKind.i64.wrap ((IntKind.i64.wrap ((IntKind.i64.wrap ((IntKind.i64.wrap ((IntKind.i64.wrap ((IntKind.i64.wrap (s2 + 1)) + 1)) + 1)) + 1)) + 1)) + 1)) + 1)) + 1)) + 1)), .string x6]) RTExpr.lasts Sz_9 rfl rfl rfl rfl ⟨rfl, trivial⟩ rfl h11 rfl rfl (fun ap => (Dj.nil _))) rfl (fun Φ_12 D12 q11 => ?_)
    obtain ⟨⟨ap11, fr11⟩, h12⟩ := q11
    refine WL.nil ?_
    refine WT.region ?_
    refine lq (q_move rfl) rfl ?_
    refine lq (q_add rfl rfl) rfl ?_
    refine lq (q_assign rfl) rfl ?_
    refine WL.nil ?_
    refine WT.inBlock ?_
    refine WT.region ?_
    refine lq (q_move rfl) rfl ?_
    refine lq (q_add rfl rfl) rfl ?_
    refine lq (q_assign rfl) rfl ?_
    refine WL.nil ?_
    have h13 := h12.unfocusF RTExpr.flat (cs := [.string x1, .int .i64 (IntKind.i64.wrap (s2 + 1)), .string x3, .int .i64 (IntKind.i64.wrap ((IntKind.i64.wrap ((IntKind.i64.wrap (s2 + 1)) + 1)) + 1)), .int .i64 (IntKind.i64.wrap ((IntKind.i64.wrap ((IntKind.i64.wrap ((IntKind.i64.wrap (s2 + 1)) + 1)) + 1)) + 1)), .string x4, .int .i64 (IntKind.i64.wrap ((IntKind.i64.wrap ((IntKind.i64.wrap ((IntKind.i64.wrap ((IntKind.i64.wrap ((IntKind.i64.wrap (s2 + 1)) + 1)) + 1)) + 1)) + 1)) + 1)), .string x5, .int .i64 (IntKind.i64.wrap ((IntKind.i64.wrap ((IntKind.i64.wrap ((IntKind.i64.wrap ((IntKind.i64.wrap ((IntKind.i64.wrap ((IntKind.i64.wrap ((IntKind.i64.wrap (s2 + 1)) + 1)) + 1)) + 1)) + 1)) + 1)) + 1)) + 1)), .int .i64 (IntKind.i64.wrap ((IntKind.i64.wrap ((IntKind.i64.wrap ((IntKind.i64.wrap ((IntKind.i64.wrap ((IntKind.i64.wrap ((IntKind.i64.wrap ((IntKind.i64.wrap ((IntKind.i64.wrap (s2 + 1)) + 1)) + 1)) + 1)) + 1)) + 1)) + 1)) + 1)) + 1)), .string x6]) (x' := (⟨x1, (⟨IntKind.i64.wrap (s2 + 1), x3, (⟨IntKind.i64.wrap ((IntKind.i64.wrap ((IntKind.i64.wrap (s2 + 1)) + 1)) + 1), IntKind.i64.wrap ((IntKind.i64.wrap ((IntKind.i64.wrap ((IntKind.i64.wrap (s2 + 1)) + 1)) + 1)) + 1), x4⟩ : TVal)⟩ : TArg), (⟨IntKind.i64.wrap ((IntKind.i64.wrap ((IntKind.i64.wrap ((IntKind.i64.wrap ((IntKind.i64.wrap ((IntKind.i64.wrap (s2 + 1)) + 1)) + 1)) + 1)) + 1)) + 1), x5, (⟨IntKind.i64.wrap ((IntKind.i64.wrap ((IntKind.i64.wrap ((IntKind.i64.wrap ((IntKind.i64.wrap ((IntKind.i64.wrap ((IntKind.i64.wrap ((IntKind.i64.wrap (s2 + 1)) + 1)) + 1)) + 1)) + 1)) + 1)) + 1)) + 1), IntKind.i64.wrap ((IntKind.i64.wrap ((IntKind.i64.wrap ((IntKind.i64.wrap ((IntKind.i64.wrap ((IntKind.i64.wrap ((IntKind.i64.wrap ((IntKind.i64.wrap ((IntKind.i64.wrap (s2 + 1)) + 1)) + 1)) + 1)) + 1)) + 1)) + 1)) + 1)) + 1), x6⟩ : TVal)⟩ : TArg)⟩ : TExpr)) ⟨rfl, rfl⟩
    refine WT.inLoop (WT.mono (l' := [(0, pv0), (1, .int .i64 (IntKind.i64.wrap ((IntKind.i64.wrap ((IntKind.i64.wrap ((IntKind.i64.wrap ((IntKind.i64.wrap ((IntKind.i64.wrap ((IntKind.i64.wrap ((IntKind.i64.wrap ((IntKind.i64.wrap ((IntKind.i64.wrap ((IntKind.i64.wrap (s2 + 1)) + 1)) + 1)) + 1)) + 1)) + 1)) + 1)) + 1)) + 1)) + 1)) + 1))), (5, .int .i64 (IntKind.i64.wrap (s3 + 1)))]) (S' := St w0 Φ_12 [] [ob pv0]) ⟨rfl, rfl, rfl, trivial⟩ (fun w1 hw => (hw.sel (js := [0]) rfl).selO (js := []) rfl) ?_)
    exact ih1 (Φ_12, (s1.set s3.toNat (⟨x1, (⟨IntKind.i64.wrap (s2 + 1), x3, (⟨IntKind.i64.wrap ((IntKind.i64.wrap ((IntKind.i64.wrap (s2 + 1)) + 1)) + 1), IntKind.i64.wrap ((IntKind.i64.wrap ((IntKind.i64.wrap ((IntKind.i64.wrap (s2 + 1)) + 1)) + 1)) + 1), x4⟩ : TVal)⟩ : TArg), (⟨IntKind.i64.wrap ((IntKind.i64.wrap ((IntKind.i64.wrap ((IntKind.i64.wrap ((IntKind.i64.wrap ((IntKind.i64.wrap (s2 + 1)) + 1)) + 1)) + 1)) + 1)) + 1), x5, (⟨IntKind.i64.wrap ((IntKind.i64.wrap ((IntKind.i64.wrap ((IntKind.i64.wrap ((IntKind.i64.wrap ((IntKind.i64.wrap ((IntKind.i64.wrap ((IntKind.i64.wrap (s2 + 1)) + 1)) + 1)) + 1)) + 1)) + 1)) + 1)) + 1), IntKind.i64.wrap ((IntKind.i64.wrap ((IntKind.i64.wrap ((IntKind.i64.wrap ((IntKind.i64.wrap ((IntKind.i64.wrap ((IntKind.i64.wrap ((IntKind.i64.wrap ((IntKind.i64.wrap (s2 + 1)) + 1)) + 1)) + 1)) + 1)) + 1)) + 1)) + 1)) + 1), x6⟩ : TVal)⟩ : TArg)⟩ : TExpr)), IntKind.i64.wrap ((IntKind.i64.wrap ((IntKind.i64.wrap ((IntKind.i64.wrap ((IntKind.i64.wrap ((IntKind.i64.wrap ((IntKind.i64.wrap ((IntKind.i64.wrap ((IntKind.i64.wrap ((IntKind.i64.wrap ((IntKind.i64.wrap (s2 + 1)) + 1)) + 1)) + 1)) + 1)) + 1)) + 1)) + 1)) + 1)) + 1)) + 1), IntKind.i64.wrap (s3 + 1)) ⟨h, h13⟩
  replace h := ite_f h c1
  refine WT.exit rfl ?_
  refine WT.seq ?_
  refine WT.region ?_
  refine lq (q_move rfl) rfl ?_
  refine lq (q_assign rfl) rfl ?_
  refine WL.nil ?_
  refine WT.ret Try.func117 (resOk.one rfl) (fun w1 hw => ?_)
  subst hb0
  cases h
  refine postG_of_St (js := [0]) hw rfl ⟨rfl, rfl, k1⟩
theorem m_l_markActS_ok {Φ : Hp} {w : World} (hΦ : In Φ w) (N : Nat) (p0 : (List TAct)) (p1 : Int) {pv0 : Value} {pD0 : List Nat} (ph0 : OSl OTAct 146 5 Φ pD0 pv0 p0) (hB : [ob pv0, pD0].flatten.Nodup) (hlt : ∀ k ∈ [ob pv0, pD0].flatten, k < w.heap.size) {r : Int × (List TAct)} (h : m_l_markActS N p0 p1 = some r) :
    Calls Try.prog 67 [pv0, .int .i64 p1].toArray w (PostG Φ w [ob pv0, pD0].flatten (fun Φ' Fs v => ∃ (Do_0_0 : List Nat), v = .int .i64 r.1 ∧ Fs = [ob pv0, Do_0_0] ∧ OSl OTAct 146 5 Φ' Do_0_0 pv0 r.2)) := by
  refine enter Try.func67 rfl Try.ntmps67 rfl (St.start hΦ [ob pv0, pD0] hB hlt) ?_
  generalize hb0 : (⟨w, [ob pv0, pD0].flatten, Φ⟩ : Base) = w0
  unfold m_l_markActS at h
  refine WT.seq ?_
  refine WT.region ?_
  refine lq (q_assign rfl) rfl ?_
  refine WL.nil ?_
  refine WT.seq ?_
  refine WT.seq ?_
  refine WT.region ?_
  refine lq (q_assign rfl) rfl ?_
  refine WL.nil ?_
  refine WT.block ?_
  refine WT.loop ?_
  refine WT.mono (l' := [(0, pv0), (1, .int .i64 p1), (5, .int .i64 0)]) (S' := St w0 Φ [] [ob pv0, pD0]) ⟨rfl, rfl, rfl, trivial⟩ (fun w1 hw => (hw.sel (js := [0, 0]) rfl).selO (js := []) rfl) ?_
  refine loop_ind (σ := Hp × (List TAct) × List Nat × Int × Int) (fun s => [(0, pv0), (1, .int .i64 s.2.2.2.1), (5, .int .i64 s.2.2.2.2)]) (fun s => St w0 s.1 [] [ob pv0, s.2.2.1]) (fun m s => m_l_markActS_l1 N m s.2.1 s.2.2.2.1 s.2.2.2.2 = some r ∧ (OSl OTAct 146 5 s.1 s.2.2.1 pv0 s.2.1)) (fun s hm => none_ne (show (none : Option (Int × (List TAct))) = some r from hm.1)) (fun n1 ih1 s hm => ?_) N (Φ, p0, pD0, p1, 0) ⟨h, ph0⟩
  obtain ⟨Φ_1, s1, D1, s2, s3⟩ := s
  obtain ⟨h, k1⟩ := hm
  replace h : m_l_markActS_l1 N (n1 + 1) s1 s2 s3 = some r := h
  replace k1 : OSl OTAct 146 5 Φ_1 D1 pv0 s1 := k1
  show WT _ _ [(0, pv0), (1, .int .i64 s2), (5, .int .i64 s3)] (St w0 Φ_1 [] [ob pv0, D1])
  unfold m_l_markActS_l1 at h
  refine WT.seq ?_
  refine WT.seq ?_
  refine WT.region ?_
  refine lq (q_move rfl) rfl ?_
  refine lq (q_move rfl) rfl ?_
  refine lq (q_lenR Sl_49 rfl rfl (k1.rslG OTAct.gives)) rfl ?_
  refine lq (q_lss rfl rfl) rfl ?_
  refine WL.nil ?_
  refine WT.cond rfl (fun c1 => ?_) (fun c1 => ?_)
  · replace h := ite_t h c1
    refine WT.skip ?_
    refine WT.seq ?_
    refine WT.block ?_
    refine WT.seq ?_
    refine WT.region ?_
    refine lq (q_move rfl) rfl ?_
    refine lq (q_move rfl) rfl ?_
    refine lq (q_move rfl) rfl ?_
    obtain ⟨x1, hx1, h⟩ := bind_some h
    obtain ⟨cs1, F1, D2, h1, r1, kf1, sp1⟩ := k1.focus hx1
    obtain ⟨v1, rfl, rfl, h2⟩ := r1
    refine WL.conv (S' := St w0 Φ_1 [] [ob v1, D2, ob pv0]) (fun w1 hw => hw.re (js := [1]) (Bs := [ob v1, D2]) rfl (by simpa [List.append_assoc] using sp1)) ?_
    refine lq (q_indexAddrH Sl_49 rfl rfl h1 hx1) rfl ?_
    refine lq (q_fieldAddr Fld_146_0 rfl) rfl ?_
    refine lu (u_setH (js := [2]) (Rr := [ob v1, D2]) (o := 0) (vs := [.int .i64 s2]) (cs' := [.int .i64 s2, .string x1.Name, v1, .int .i64 x1.N, .string x1.Undo]) OTAct.lasts Sz_3 rfl rfl rfl rfl ⟨rfl, trivial⟩ rfl h1 rfl rfl (fun ap => (ap.r (i := 1) rfl))) rfl (fun Φ_2 D3 q1 => ?_)
    obtain ⟨⟨ap1, fr1⟩, h3⟩ := q1
    replace h2 := h2.frame RTExpr.lasts fr1 (ap1.r (i := 0) rfl) (Dj.nil _)
    refine WL.nil ?_
    refine WT.seq ?_
    refine WT.region ?_
    refine lq (q_move rfl) rfl ?_
    refine lq (q_add rfl rfl) rfl ?_
    refine lq (q_assign rfl) rfl ?_
    refine WL.nil ?_
    refine WT.seq ?_
    refine WT.region ?_
    refine lq (q_move rfl) rfl ?_
    refine lq (q_move rfl) rfl ?_
    refine lq (q_move rfl) rfl ?_
    obtain ⟨x2, hx2, h⟩ := bind_some h
    refine lp (p_call Fun_69 rfl (fun w1 hw => m_l_markText_ok hw.fro N (IntKind.i64.wrap (s2 + 1)) hx2)) rfl ?_
    refine lq (q_indexAddrH Sl_49 rfl rfl h3 hx1) rfl ?_
    refine lq (q_fieldAddr Fld_146_1 rfl) rfl ?_
    refine lu (u_setH (js := [0]) (Rr := [ob v1, D2]) (o := 1) (vs := [.string x2]) (cs' := [.int .i64 s2, .string x2, v1, .int .i64 x1.N, .string x1.Undo]) OTAct.lasts Sz_9 rfl rfl rfl rfl ⟨rfl, trivial⟩ rfl h3 rfl rfl (fun ap => (ap.r (i := 1) rfl))) rfl (fun Φ_3 D4 q2 => ?_)
    obtain ⟨⟨ap2, fr2⟩, h4⟩ := q2
    replace h2 := h2.frame RTExpr.lasts fr2 (ap2.r (i := 0) rfl) (Dj.nil _)
    refine WL.nil ?_
    refine WT.seq ?_
    refine WT.region ?_
    refine lq (q_move rfl) rfl ?_
    refine lq (q_add rfl rfl) rfl ?_
    refine lq (q_assign rfl) rfl ?_
    refine WL.nil ?_
    refine WT.seq ?_
    refine WT.region ?_
    refine lq (q_move rfl) rfl ?_
    refine lq (q_move rfl) rfl ?_
    refine lq (q_indexAddrH Sl_49 rfl rfl h4 hx1) rfl ?_
    refine lq (q_fieldAddr Fld_146_2 rfl) rfl ?_
    refine lq (q_load1 T1_144 rfl (fun w1 hw => (h4.rg.of_eq 2 1 rfl rfl : rg _ _ _ [v1]).rangeAt hw.fro)) rfl ?_
    refine lq (q_move rfl) rfl ?_
    obtain ⟨x3, hx3, h⟩ := bind_some h
    refine lc (k_call (js := [1]) (R := [ob pv0, D2]) Fun_117 rfl rfl (fun w1 hw ap hl => m_l_markExprS_ok hw.fro N x1.Args (IntKind.i64.wrap ((IntKind.i64.wrap (s2 + 1)) + 1)) h2 ap.nd hl hx3)) rfl (fun v2 Φ_4 F2 q3 => ?_)
    obtain ⟨ap3, fr3, rfl, rfl, h5⟩ := q3
    replace h4 := h4.frame OTAct.lasts fr3 (ap3.r (i := 0) rfl) (ap3.r (i := 1) rfl)
    refine lq (q_assign rfl) rfl ?_
    refine WL.nil ?_
    refine WT.seq ?_
    refine WT.region ?_
    refine lq (q_move rfl) rfl ?_
    refine lq (q_move rfl) rfl ?_
    refine lq (q_move rfl) rfl ?_
    refine lq (q_indexAddrH Sl_49 rfl rfl h4 hx1) rfl ?_
    refine lq (q_fieldAddr Fld_146_3 rfl) rfl ?_
    refine lu (u_setH (js := [1]) (Rr := [ob v1, D2]) (o := 3) (vs := [.int .i64 x3.1]) (cs' := [.int .i64 s2, .string x2, v1, .int .i64 x3.1, .string x1.Undo]) OTAct.lasts Sz_3 rfl rfl rfl rfl ⟨rfl, trivial⟩ rfl h4 rfl rfl (fun ap => (ap.r (i := 1) rfl))) rfl (fun Φ_5 D5 q4 => ?_)
    obtain ⟨⟨ap4, fr4⟩, h6⟩ := q4
    replace h5 := h5.frame RTExpr.lasts fr4 (ap4.r (i := 0) rfl) (Dj.nil _)
    refine WL.nil ?_
    refine WT.seq ?_
    refine WT.region ?_
    refine lq (q_move rfl) rfl ?_
    refine lq (q_add rfl rfl) rfl ?_
    refine lq (q_assign rfl) rfl ?_
    refine WL.nil ?_
    refine WT.seq ?_
    refine WT.region ?_
    refine lq (q_move rfl) rfl ?_
    refine lq (q_move rfl) rfl ?_
    refine lq (q_move rfl) rfl ?_
    obtain ⟨x4, hx4, h⟩ := bind_some h
    refine lp (p_call Fun_69 rfl (fun w1 hw => m_l_markText_ok hw.fro N (IntKind.i64.wrap (x3.1 + 1)) hx4)) rfl ?_
    refine lq (q_indexAddrH Sl_49 rfl rfl h6 hx1) rfl ?_
    refine lq (q_fieldAddr Fld_146_4 rfl) rfl ?_
    refine lu (u_setH (js := [0]) (Rr := [ob v1, D2]) (o := 4) (vs := [.string x4]) (cs' := [.int .i64 s2, .string x2, v1, .int .i64 x3.1, .string x4]) OTAct.lasts Sz_9 rfl rfl rfl rfl ⟨rfl, trivial⟩ rfl h6 rfl rfl (fun ap => (ap.r (i := 1) rfl))) rfl (fun Φ_6 D6 q5 => ?_)
    obtain ⟨⟨ap5, fr5⟩, h7⟩ := q5
    replace h5 := h5.frame RTExpr.lasts fr5 (ap5.r (i := 0) rfl) (Dj.nil _)
    refine WL.nil ?_
    refine WT.region ?_
    refine lq (q_move rfl) rfl ?_
    refine lq (q_add rfl rfl) rfl ?_
    refine lq (q_assign rfl) rfl ?_
    refine WL.nil ?_
    refine WT.inBlock ?_
    refine WT.region ?_
    refine lq (q_move rfl) rfl ?_
    refine lq (q_add rfl rfl) rfl ?_
    refine lq (q_assign rfl) rfl ?_
    refine WL.nil ?_
    have r2 : OTAct Φ_6 _ [.int .i64 s2, .string x2, v1, .int .i64 x3.1, .string x4] (⟨s2, x2, x3.2, x3.1, x4⟩ : TAct) := ⟨v1, rfl, rfl, h5⟩
    obtain ⟨D7, h8, sp2⟩ := h7.unfocus r2 (OTAct.knows _ _ _ _ r2)
    refine WT.conv (S' := St w0 Φ_6 [] [D7, ob pv0]) (fun w1 hw => hw.merge (js := [1, 1]) rfl (by simpa [List.append_assoc, ob_nil] using sp2)) ?_
    refine WT.inLoop (WT.mono (l' := [(0, pv0), (1, .int .i64 (IntKind.i64.wrap ((IntKind.i64.wrap (x3.1 + 1)) + 1))), (5, .int .i64 (IntKind.i64.wrap (s3 + 1)))]) (S' := St w0 Φ_6 [] [ob pv0, D7]) ⟨rfl, rfl, rfl, trivial⟩ (fun w1 hw => (hw.sel (js := [1, 0]) rfl).selO (js := []) rfl) ?_)
    exact ih1 (Φ_6, (s1.set s3.toNat (⟨s2, x2, x3.2, x3.1, x4⟩ : TAct)), D7, IntKind.i64.wrap ((IntKind.i64.wrap (x3.1 + 1)) + 1), IntKind.i64.wrap (s3 + 1)) ⟨h, h8⟩
  replace h := ite_f h c1
  refine WT.exit rfl ?_
  refine WT.seq ?_
  refine WT.region ?_
  refine lq (q_move rfl) rfl ?_
  refine lq (q_assign rfl) rfl ?_
  refine WL.nil ?_
  refine WT.ret Try.func67 (resOk.one rfl) (fun w1 hw => ?_)
  subst hb0
  cases h
  refine postG_of_St (js := [0, 0]) hw rfl ⟨D1, rfl, rfl, k1⟩
theorem m_l_markRuleS_ok {Φ : Hp} {w : World} (hΦ : In Φ w) (N : Nat) (p0 : (List TRule)) (p1 : Int) {pv0 : Value} {pD0 : List Nat} (ph0 : OSl OTRule 51 5 Φ pD0 pv0 p0) (hB : [ob pv0, pD0].flatten.Nodup) (hlt : ∀ k ∈ [ob pv0, pD0].flatten, k < w.heap.size) {r : Int × (List TRule)} (h : m_l_markRuleS N p0 p1 = some r) :
    Calls Try.prog 80 [pv0, .int .i64 p1].toArray w (PostG Φ w [ob pv0, pD0].flatten (fun Φ' Fs v => ∃ (Do_0_0 : List Nat), v = .int .i64 r.1 ∧ Fs = [ob pv0, Do_0_0] ∧ OSl OTRule 51 5 Φ' Do_0_0 pv0 r.2)) := by
  refine enter Try.func80 rfl Try.ntmps80 rfl (St.start hΦ [ob pv0, pD0] hB hlt) ?_
  generalize hb0 : (⟨w, [ob pv0, pD0].flatten, Φ⟩ : Base) = w0
  unfold m_l_markRuleS at h
  refine WT.seq ?_
  refine WT.region ?_
  refine lq (q_assign rfl) rfl ?_
  refine WL.nil ?_
  refine WT.seq ?_
  refine WT.seq ?_
  refine WT.region ?_
  refine lq (q_assign rfl) rfl ?_
  refine WL.nil ?_
  refine WT.block ?_
  refine WT.loop ?_
  refine WT.mono (l' := [(0, pv0), (1, .int .i64 p1), (5, .int .i64 0)]) (S' := St w0 Φ [] [ob pv0, pD0]) ⟨rfl, rfl, rfl, trivial⟩ (fun w1 hw => (hw.sel (js := [0, 0]) rfl).selO (js := []) rfl) ?_
  refine loop_ind (σ := Hp × (List TRule) × List Nat × Int × Int) (fun s => [(0, pv0), (1, .int .i64 s.2.2.2.1), (5, .int .i64 s.2.2.2.2)]) (fun s => St w0 s.1 [] [ob pv0, s.2.2.1]) (fun m s => m_l_markRuleS_l1 N m s.2.1 s.2.2.2.1 s.2.2.2.2 = some r ∧ (OSl OTRule 51 5 s.1 s.2.2.1 pv0 s.2.1)) (fun s hm => none_ne (show (none : Option (Int × (List TRule))) = some r from hm.1)) (fun n1 ih1 s hm => ?_) N (Φ, p0, pD0, p1, 0) ⟨h, ph0⟩
  obtain ⟨Φ_1, s1, D1, s2, s3⟩ := s
  obtain ⟨h, k1⟩ := hm
  replace h : m_l_markRuleS_l1 N (n1 + 1) s1 s2 s3 = some r := h
  replace k1 : OSl OTRule 51 5 Φ_1 D1 pv0 s1 := k1
  show WT _ _ [(0, pv0), (1, .int .i64 s2), (5, .int .i64 s3)] (St w0 Φ_1 [] [ob pv0, D1])
  unfold m_l_markRuleS_l1 at h
  refine WT.seq ?_
  refine WT.seq ?_
  refine WT.region ?_
  refine lq (q_move rfl) rfl ?_
  refine lq (q_move rfl) rfl ?_
  refine lq (q_lenR Sl_27 rfl rfl (k1.rslG OTRule.gives)) rfl ?_
  refine lq (q_lss rfl rfl) rfl ?_
  refine WL.nil ?_
  refine WT.cond rfl (fun c1 => ?_) (fun c1 => ?_)
  · replace h := ite_t h c1
    refine WT.skip ?_
    refine WT.seq ?_
    refine WT.block ?_
    refine WT.seq ?_
    refine WT.region ?_
    refine lq (q_move rfl) rfl ?_
    refine lq (q_move rfl) rfl ?_
    refine lq (q_move rfl) rfl ?_
    obtain ⟨x1, hx1, h⟩ := bind_some h
    refine lp (p_call Fun_69 rfl (fun w1 hw => m_l_markText_ok hw.fro N s2 hx1)) rfl ?_
    obtain ⟨x2, hx2, h⟩ := bind_some h
    obtain ⟨cs1, F1, D2, h1, r1, kf1, sp1⟩ := k1.focus hx2
    obtain ⟨v1, D3, v2, v3, D4, rfl, rfl, h2, h3, h4⟩ := r1
    refine WL.conv (S' := St w0 Φ_1 [] [ob v1, D3, ob v2, ob v3, D4, D2, ob pv0]) (fun w1 hw => hw.re (js := [1]) (Bs := [ob v1, D3, ob v2, ob v3, D4, D2]) rfl (by simpa [List.append_assoc] using sp1)) ?_
    refine lq (q_indexAddrH Sl_27 rfl rfl h1 hx2) rfl ?_
    refine lq (q_fieldAddr Fld_51_0 rfl) rfl ?_
    refine lu (u_setH (js := [6]) (Rr := [ob v1, D3, ob v2, ob v3, D4, D2]) (o := 0) (vs := [.string x1]) (cs' := [.string x1, .int .i64 x2.Sal, v1, v2, v3]) OTRule.lasts Sz_9 rfl rfl rfl rfl ⟨rfl, trivial⟩ rfl h1 rfl rfl (fun ap => (ap.r (i := 5) rfl))) rfl (fun Φ_2 D5 q1 => ?_)
    obtain ⟨⟨ap1, fr1⟩, h5⟩ := q1
    replace h2 := h2.frame OTPat.lasts fr1 (ap1.r (i := 0) rfl) (ap1.r (i := 1) rfl)
    replace h3 := h3.frame RTCond.lasts fr1 (ap1.r (i := 2) rfl) (Dj.nil _)
    replace h4 := h4.frame OTAct.lasts fr1 (ap1.r (i := 3) rfl) (ap1.r (i := 4) rfl)
    refine WL.nil ?_
    refine WT.seq ?_
    refine WT.region ?_
    refine lq (q_move rfl) rfl ?_
    refine lq (q_add rfl rfl) rfl ?_
    refine lq (q_assign rfl) rfl ?_
    refine WL.nil ?_
    refine WT.seq ?_
    refine WT.region ?_
    refine lq (q_move rfl) rfl ?_
    refine lq (q_move rfl) rfl ?_
    refine lq (q_move rfl) rfl ?_
    refine lq (q_indexAddrH Sl_27 rfl rfl h5 hx2) rfl ?_
    refine lq (q_fieldAddr Fld_51_1 rfl) rfl ?_
    refine lu (u_setH (js := [0]) (Rr := [ob v1, D3, ob v2, ob v3, D4, D2]) (o := 1) (vs := [.int .i64 (IntKind.i64.wrap (s2 + 1))]) (cs' := [.string x1, .int .i64 (IntKind.i64.wrap (s2 + 1)), v1, v2, v3]) OTRule.lasts Sz_3 rfl rfl rfl rfl ⟨rfl, trivial⟩ rfl h5 rfl rfl (fun ap => (ap.r (i := 5) rfl))) rfl (fun Φ_3 D6 q2 => ?_)
    obtain ⟨⟨ap2, fr2⟩, h6⟩ := q2
    replace h2 := h2.frame OTPat.lasts fr2 (ap2.r (i := 0) rfl) (ap2.r (i := 1) rfl)
    replace h3 := h3.frame RTCond.lasts fr2 (ap2.r (i := 2) rfl) (Dj.nil _)
    replace h4 := h4.frame OTAct.lasts fr2 (ap2.r (i := 3) rfl) (ap2.r (i := 4) rfl)
    refine WL.nil ?_
    refine WT.seq ?_
    refine WT.region ?_
    refine lq (q_move rfl) rfl ?_
    refine lq (q_add rfl rfl) rfl ?_
    refine lq (q_assign rfl) rfl ?_
    refine WL.nil ?_
    refine WT.seq ?_
    refine WT.region ?_
    refine lq (q_move rfl) rfl ?_
    refine lq (q_move rfl) rfl ?_
    refine lq (q_indexAddrH Sl_27 rfl rfl h6 hx2) rfl ?_
    refine lq (q_fieldAddr Fld_51_2 rfl) rfl ?_
    refine lq (q_load1 T1_47 rfl (fun w1 hw => (h6.rg.of_eq 2 1 rfl rfl : rg _ _ _ [v1]).rangeAt hw.fro)) rfl ?_
    refine lq (q_move rfl) rfl ?_
    obtain ⟨x3, hx3, h⟩ := bind_some h
    refine lc (k_call (js := [1, 1]) (R := [ob pv0, ob v2, ob v3, D4, D2]) Fun_65 rfl rfl (fun w1 hw ap hl => m_l_markPatS_ok hw.fro N x2.Pats (IntKind.i64.wrap ((IntKind.i64.wrap (s2 + 1)) + 1)) h2 ap.nd hl hx3)) rfl (fun v4 Φ_4 F2 q3 => ?_)
    obtain ⟨ap3, fr3, D7, rfl, rfl, h7⟩ := q3
    replace h6 := h6.frame OTRule.lasts fr3 (ap3.r (i := 0) rfl) (ap3.r (i := 4) rfl)
    replace h3 := h3.frame RTCond.lasts fr3 (ap3.r (i := 1) rfl) (Dj.nil _)
    replace h4 := h4.frame OTAct.lasts fr3 (ap3.r (i := 2) rfl) (ap3.r (i := 3) rfl)
    refine lq (q_assign rfl) rfl ?_
    refine WL.nil ?_
    refine WT.seq ?_
    refine WT.region ?_
    refine lq (q_move rfl) rfl ?_
    refine lq (q_move rfl) rfl ?_
    refine lq (q_indexAddrH Sl_27 rfl rfl h6 hx2) rfl ?_
    refine lq (q_fieldAddr Fld_51_3 rfl) rfl ?_
    refine lq (q_load1 T1_48 rfl (fun w1 hw => (h6.rg.of_eq 3 1 rfl rfl : rg _ _ _ [v2]).rangeAt hw.fro)) rfl ?_
    refine lq (q_move rfl) rfl ?_
    obtain ⟨x4, hx4, h⟩ := bind_some h
    refine lc (k_call (js := [3]) (R := [ob v1, D7, ob pv0, ob v3, D4, D2]) Fun_66 rfl rfl (fun w1 hw ap hl => m_l_markCondS_ok hw.fro N x2.Conds x3.1 h3 ap.nd hl hx4)) rfl (fun v5 Φ_5 F3 q4 => ?_)
    obtain ⟨ap4, fr4, rfl, rfl, h8⟩ := q4
    replace h6 := h6.frame OTRule.lasts fr4 (ap4.r (i := 2) rfl) (ap4.r (i := 5) rfl)
    replace h7 := h7.frame OTPat.lasts fr4 (ap4.r (i := 0) rfl) (ap4.r (i := 1) rfl)
    replace h4 := h4.frame OTAct.lasts fr4 (ap4.r (i := 3) rfl) (ap4.r (i := 4) rfl)
    refine lq (q_assign rfl) rfl ?_
    refine WL.nil ?_
    refine WT.region ?_
    refine lq (q_move rfl) rfl ?_
    refine lq (q_move rfl) rfl ?_
    refine lq (q_indexAddrH Sl_27 rfl rfl h6 hx2) rfl ?_
    refine lq (q_fieldAddr Fld_51_4 rfl) rfl ?_
    refine lq (q_load1 T1_49 rfl (fun w1 hw => (h6.rg.of_eq 4 1 rfl rfl : rg _ _ _ [v3]).rangeAt hw.fro)) rfl ?_
    refine lq (q_move rfl) rfl ?_
    obtain ⟨x5, hx5, h⟩ := bind_some h
    refine lc (k_call (js := [4, 4]) (R := [ob v2, ob v1, D7, ob pv0, D2]) Fun_67 rfl rfl (fun w1 hw ap hl => m_l_markActS_ok hw.fro N x2.Acts x4.1 h4 ap.nd hl hx5)) rfl (fun v6 Φ_6 F4 q5 => ?_)
    obtain ⟨ap5, fr5, D8, rfl, rfl, h9⟩ := q5
    replace h6 := h6.frame OTRule.lasts fr5 (ap5.r (i := 3) rfl) (ap5.r (i := 4) rfl)
    replace h7 := h7.frame OTPat.lasts fr5 (ap5.r (i := 1) rfl) (ap5.r (i := 2) rfl)
    replace h8 := h8.frame RTCond.lasts fr5 (ap5.r (i := 0) rfl) (Dj.nil _)
    refine lq (q_assign rfl) rfl ?_
    refine WL.nil ?_
    refine WT.inBlock ?_
    refine WT.region ?_
    refine lq (q_move rfl) rfl ?_
    refine lq (q_add rfl rfl) rfl ?_
    refine lq (q_assign rfl) rfl ?_
    refine WL.nil ?_
    have r2 : OTRule Φ_6 _ [.string x1, .int .i64 (IntKind.i64.wrap (s2 + 1)), v1, v2, v3] (⟨x1, IntKind.i64.wrap (s2 + 1), x3.2, x4.2, x5.2⟩ : TRule) := ⟨v1, D7, v2, v3, D8, rfl, rfl, h7, h8, h9⟩
    obtain ⟨D9, h10, sp2⟩ := h6.unfocus r2 (OTRule.knows _ _ _ _ r2)
    refine WT.conv (S' := St w0 Φ_6 [] [D9, ob pv0]) (fun w1 hw => hw.merge (js := [3, 3, 2, 0, 0, 1]) rfl (by simpa [List.append_assoc, ob_nil] using sp2)) ?_
    refine WT.inLoop (WT.mono (l' := [(0, pv0), (1, .int .i64 x5.1), (5, .int .i64 (IntKind.i64.wrap (s3 + 1)))]) (S' := St w0 Φ_6 [] [ob pv0, D9]) ⟨rfl, rfl, rfl, trivial⟩ (fun w1 hw => (hw.sel (js := [1, 0]) rfl).selO (js := []) rfl) ?_)
    exact ih1 (Φ_6, (s1.set s3.toNat (⟨x1, IntKind.i64.wrap (s2 + 1), x3.2, x4.2, x5.2⟩ : TRule)), D9, x5.1, IntKind.i64.wrap (s3 + 1)) ⟨h, h10⟩
  replace h := ite_f h c1
  refine WT.exit rfl ?_
  refine WT.seq ?_
  refine WT.region ?_
  refine lq (q_move rfl) rfl ?_
  refine lq (q_assign rfl) rfl ?_
  refine WL.nil ?_
  refine WT.ret Try.func80 (resOk.one rfl) (fun w1 hw => ?_)
  subst hb0
  cases h
  refine postG_of_St (js := [0, 0]) hw rfl ⟨D1, rfl, rfl, k1⟩
theorem m_l_markDef_ok {Φ : Hp} {w : World} (hΦ : In Φ w) (N : Nat) (p0 : TDef) (p1 : Int) {pv0_0 : Value} {pD0_0 : List Nat} (ph0_0 : OSl OTRule 51 5 Φ pD0_0 pv0_0 p0.Rules) (hB : [ob pv0_0, pD0_0].flatten.Nodup) (hlt : ∀ k ∈ [ob pv0_0, pD0_0].flatten, k < w.heap.size) {r : Int × (List TRule)} (h : m_l_markDef N p0 p1 = some r) :
    Calls Try.prog 33 [.agg [.string p0.Name, pv0_0].toArray, .int .i64 p1].toArray w (PostG Φ w [ob pv0_0, pD0_0].flatten (fun Φ' Fs v => ∃ (Do_0_0 : List Nat), v = .int .i64 r.1 ∧ Fs = [ob pv0_0, Do_0_0] ∧ OSl OTRule 51 5 Φ' Do_0_0 pv0_0 r.2)) := by
  refine enter Try.func33 rfl Try.ntmps33 rfl (St.start hΦ [ob pv0_0, pD0_0] hB hlt) ?_
  unfold m_l_markDef at h
  refine WT.seq ?_
  refine WT.region ?_
  refine ln (n_box (C := #[.string p0.Name, pv0_0]) rfl rfl) rfl (fun b_1 => ?_)
  refine lq (q_assign rfl) rfl ?_
  refine WL.nil ?_
  refine WT.seq ?_
  refine WT.region ?_
  refine lq (q_fieldAddr Fld_29_1 rfl) rfl ?_
  refine lq (q_load1 T1_27 rfl (fun w1 hw => hw.rgO (i := 0) rfl 1 1 [pv0_0] rfl)) rfl ?_
  refine lq (q_move rfl) rfl ?_
  obtain ⟨x1, hx1, h⟩ := bind_some h
  refine lc (k_call (js := [0, 0]) (R := []) Fun_80 rfl rfl (fun w1 hw ap hl => m_l_markRuleS_ok hw.fro N p0.Rules p1 ph0_0 ap.nd hl hx1)) rfl (fun v1 Φ_1 F1 q1 => ?_)
  obtain ⟨ap1, fr1, D1, rfl, rfl, h1⟩ := q1
  refine lq (q_assign rfl) rfl ?_
  refine WL.nil ?_
  refine WT.seq ?_
  refine WT.region ?_
  refine lq (q_move rfl) rfl ?_
  refine lq (q_assign rfl) rfl ?_
  refine WL.nil ?_
  refine WT.ret Try.func33 (resOk.one rfl) (fun w1 hw => ?_)
  cases h
  refine postG_of_St (js := [0, 0]) hw rfl ⟨D1, rfl, rfl, h1⟩
theorem m_l_markIntS_ok {Φ : Hp} {w : World} (hΦ : In Φ w) (N : Nat) (p0 : (List Int)) (p1 : Int) {pv0 : Value} (ph0 : OSl (RI .i64) 3 1 Φ [] pv0 p0) (hB : [ob pv0].flatten.Nodup) (hlt : ∀ k ∈ [ob pv0].flatten, k < w.heap.size) {r : Int × (List Int)} (h : m_l_markIntS N p0 p1 = some r) :
    Calls Try.prog 24 [pv0, .int .i64 p1].toArray w (PostG Φ w [ob pv0].flatten (fun Φ' Fs v => v = .int .i64 r.1 ∧ Fs = [ob pv0] ∧ OSl (RI .i64) 3 1 Φ' [] pv0 r.2)) := by
  refine enter Try.func24 rfl Try.ntmps24 rfl (St.start hΦ [ob pv0] hB hlt) ?_
  generalize hb0 : (⟨w, [ob pv0].flatten, Φ⟩ : Base) = w0
  unfold m_l_markIntS at h
  refine WT.seq ?_
  refine WT.region ?_
  refine lq (q_assign rfl) rfl ?_
  refine WL.nil ?_
  refine WT.seq ?_
  refine WT.seq ?_
  refine WT.region ?_
  refine lq (q_assign rfl) rfl ?_
  refine WL.nil ?_
  refine WT.block ?_
  refine WT.loop ?_
  refine WT.mono (l' := [(0, pv0), (1, .int .i64 p1), (5, .int .i64 0)]) (S' := St w0 Φ [] [ob pv0]) ⟨rfl, rfl, rfl, trivial⟩ (fun w1 hw => (hw.sel (js := [0]) rfl).selO (js := []) rfl) ?_
  refine loop_ind (σ := Hp × (List Int) × Int × Int) (fun s => [(0, pv0), (1, .int .i64 s.2.2.1), (5, .int .i64 s.2.2.2)]) (fun s => St w0 s.1 [] [ob pv0]) (fun m s => m_l_markIntS_l1 N m s.2.1 s.2.2.1 s.2.2.2 = some r ∧ (OSl (RI .i64) 3 1 s.1 [] pv0 s.2.1)) (fun s hm => none_ne (show (none : Option (Int × (List Int))) = some r from hm.1)) (fun n1 ih1 s hm => ?_) N (Φ, p0, p1, 0) ⟨h, ph0⟩
  obtain ⟨Φ_1, s1, s2, s3⟩ := s
  obtain ⟨h, k1⟩ := hm
  replace h : m_l_markIntS_l1 N (n1 + 1) s1 s2 s3 = some r := h
  replace k1 : OSl (RI .i64) 3 1 Φ_1 [] pv0 s1 := k1
  show WT _ _ [(0, pv0), (1, .int .i64 s2), (5, .int .i64 s3)] (St w0 Φ_1 [] [ob pv0])
  unfold m_l_markIntS_l1 at h
  refine WT.seq ?_
  refine WT.seq ?_
  refine WT.region ?_
  refine lq (q_move rfl) rfl ?_
  refine lq (q_move rfl) rfl ?_
  refine lq (q_lenR Sl_41 rfl rfl k1.rsl) rfl ?_
  refine lq (q_lss rfl rfl) rfl ?_
  refine WL.nil ?_
  refine WT.cond rfl (fun c1 => ?_) (fun c1 => ?_)
  · replace h := ite_t h c1
    refine WT.skip ?_
    refine WT.seq ?_
    refine WT.block ?_
    refine WT.seq ?_
    refine WT.region ?_
    refine lq (q_move rfl) rfl ?_
    refine lq (q_move rfl) rfl ?_
    refine lq (q_move rfl) rfl ?_
    obtain ⟨x1, hx1, h⟩ := bind_some h
    obtain ⟨cs1, F1, -, g1, hb1, hs1, r1⟩ := k1.elS (idx_some hx1).2.2
    obtain ⟨rfl, -⟩ := r1
    refine lq (q_indexAddr Sl_41 rfl rfl k1.rsl hx1) rfl ?_
    refine lu (u_setF (js := [0]) (Rr := []) (vs := [.int .i64 s2]) (x' := s2) RI.lasts RI.flat Sz_3 rfl rfl rfl rfl ⟨rfl, trivial⟩ rfl k1 (idx_lt hx1) ⟨rfl, rfl⟩) rfl (fun Φ_2 D1 q1 => ?_)
    obtain ⟨⟨ap1, fr1⟩, h1⟩ := q1
    refine WL.nil ?_
    refine WT.region ?_
    refine lq (q_move rfl) rfl ?_
    refine lq (q_add rfl rfl) rfl ?_
    refine lq (q_assign rfl) rfl ?_
    refine WL.nil ?_
    refine WT.inBlock ?_
    refine WT.region ?_
    refine lq (q_move rfl) rfl ?_
    refine lq (q_add rfl rfl) rfl ?_
    refine lq (q_assign rfl) rfl ?_
    refine WL.nil ?_
    refine WT.inLoop (WT.mono (l' := [(0, pv0), (1, .int .i64 (IntKind.i64.wrap (s2 + 1))), (5, .int .i64 (IntKind.i64.wrap (s3 + 1)))]) (S' := St w0 Φ_2 [] [ob pv0]) ⟨rfl, rfl, rfl, trivial⟩ (fun w1 hw => (hw.sel (js := [0]) rfl).selO (js := []) rfl) ?_)
    exact ih1 (Φ_2, (s1.set s3.toNat s2), IntKind.i64.wrap (s2 + 1), IntKind.i64.wrap (s3 + 1)) ⟨h, h1⟩
  replace h := ite_f h c1
  refine WT.exit rfl ?_
  refine WT.seq ?_
  refine WT.region ?_
  refine lq (q_move rfl) rfl ?_
  refine lq (q_assign rfl) rfl ?_
  refine WL.nil ?_
  refine WT.ret Try.func24 (resOk.one rfl) (fun w1 hw => ?_)
  subst hb0
  cases h
  refine postG_of_St (js := [0]) hw rfl ⟨rfl, rfl, k1⟩
theorem m_l_markBindS_ok {Φ : Hp} {w : World} (hΦ : In Φ w) (N : Nat) (p0 : (List TBind)) (p1 : Int) {pv0 : Value} (ph0 : OSl RTBind 111 4 Φ [] pv0 p0) (hB : [ob pv0].flatten.Nodup) (hlt : ∀ k ∈ [ob pv0].flatten, k < w.heap.size) {r : Int × (List TBind)} (h : m_l_markBindS N p0 p1 = some r) :
    Calls Try.prog 25 [pv0, .int .i64 p1].toArray w (PostG Φ w [ob pv0].flatten (fun Φ' Fs v => v = .int .i64 r.1 ∧ Fs = [ob pv0] ∧ OSl RTBind 111 4 Φ' [] pv0 r.2)) := by
  refine enter Try.func25 rfl Try.ntmps25 rfl (St.start hΦ [ob pv0] hB hlt) ?_
  generalize hb0 : (⟨w, [ob pv0].flatten, Φ⟩ : Base) = w0
  unfold m_l_markBindS at h
  refine WT.seq ?_
  refine WT.region ?_
  refine lq (q_assign rfl) rfl ?_
  refine WL.nil ?_
  refine WT.seq ?_
  refine WT.seq ?_
  refine WT.region ?_
  refine lq (q_assign rfl) rfl ?_
  refine WL.nil ?_
  refine WT.block ?_
  refine WT.loop ?_
  refine WT.mono (l' := [(0, pv0), (1, .int .i64 p1), (5, .int .i64 0)]) (S' := St w0 Φ [] [ob pv0]) ⟨rfl, rfl, rfl, trivial⟩ (fun w1 hw => (hw.sel (js := [0]) rfl).selO (js := []) rfl) ?_
  refine loop_ind (σ := Hp × (List TBind) × Int × Int) (fun s => [(0, pv0), (1, .int .i64 s.2.2.1), (5, .int .i64 s.2.2.2)]) (fun s => St w0 s.1 [] [ob pv0]) (fun m s => m_l_markBindS_l1 N m s.2.1 s.2.2.1 s.2.2.2 = some r ∧ (OSl RTBind 111 4 s.1 [] pv0 s.2.1)) (fun s hm => none_ne (show (none : Option (Int × (List TBind))) = some r from hm.1)) (fun n1 ih1 s hm => ?_) N (Φ, p0, p1, 0) ⟨h, ph0⟩
  obtain ⟨Φ_1, s1, s2, s3⟩ := s
  obtain ⟨h, k1⟩ := hm
  replace h : m_l_markBindS_l1 N (n1 + 1) s1 s2 s3 = some r := h
  replace k1 : OSl RTBind 111 4 Φ_1 [] pv0 s1 := k1
  show WT _ _ [(0, pv0), (1, .int .i64 s2), (5, .int .i64 s3)] (St w0 Φ_1 [] [ob pv0])
  unfold m_l_markBindS_l1 at h
  refine WT.seq ?_
  refine WT.seq ?_
  refine WT.region ?_
  refine lq (q_move rfl) rfl ?_
  refine lq (q_move rfl) rfl ?_
  refine lq (q_lenR Sl_44 rfl rfl k1.rsl) rfl ?_
  refine lq (q_lss rfl rfl) rfl ?_
  refine WL.nil ?_
  refine WT.cond rfl (fun c1 => ?_) (fun c1 => ?_)
  · replace h := ite_t h c1
    refine WT.skip ?_
    refine WT.seq ?_
    refine WT.block ?_
    refine WT.seq ?_
    refine WT.region ?_
    refine lq (q_move rfl) rfl ?_
    refine lq (q_move rfl) rfl ?_
    refine lq (q_move rfl) rfl ?_
    obtain ⟨x1, hx1, h⟩ := bind_some h
    refine lp (p_call Fun_69 rfl (fun w1 hw => m_l_markText_ok hw.fro N s2 hx1)) rfl ?_
    obtain ⟨x2, hx2, h⟩ := bind_some h
    obtain ⟨cs1, F1, h1, r1⟩ := k1.focusF RTBind.flat hx2
    obtain ⟨rfl, -⟩ := r1
    refine lq (q_indexAddrH Sl_44 rfl rfl h1 hx2) rfl ?_
    refine lq (q_fieldAddr Fld_111_0 rfl) rfl ?_
    refine lu (u_setH (js := [0]) (Rr := []) (o := 0) (vs := [.string x1]) (cs' := [.string x1, .int .i64 x2.V.K, .int .i64 x2.V.N, .string x2.V.S]) RTBind.lasts Sz_9 rfl rfl rfl rfl ⟨rfl, trivial⟩ rfl h1 rfl rfl (fun ap => (Dj.nil _))) rfl (fun Φ_2 D2 q1 => ?_)
    obtain ⟨⟨ap1, fr1⟩, h2⟩ := q1
    refine WL.nil ?_
    refine WT.seq ?_
    refine WT.region ?_
    refine lq (q_move rfl) rfl ?_
    refine lq (q_add rfl rfl) rfl ?_
    refine lq (q_assign rfl) rfl ?_
    refine WL.nil ?_
    refine WT.seq ?_
    refine WT.region ?_
    refine lq (q_move rfl) rfl ?_
    refine lq (q_move rfl) rfl ?_
    refine lq (q_move rfl) rfl ?_
    refine lq (q_indexAddrH Sl_44 rfl rfl h2 hx2) rfl ?_
    refine lq (q_fieldAddr Fld_111_1 rfl) rfl ?_
    refine lq (q_fieldAddr Fld_109_0 rfl) rfl ?_
    refine lu (u_setH (js := [0]) (Rr := []) (o := 1) (vs := [.int .i64 (IntKind.i64.wrap (s2 + 1))]) (cs' := [.string x1, .int .i64 (IntKind.i64.wrap (s2 + 1)), .int .i64 x2.V.N, .string x2.V.S]) RTBind.lasts Sz_3 rfl rfl rfl rfl ⟨rfl, trivial⟩ rfl h2 rfl rfl (fun ap => (Dj.nil _))) rfl (fun Φ_3 D3 q2 => ?_)
    obtain ⟨⟨ap2, fr2⟩, h3⟩ := q2
    refine WL.nil ?_
    refine WT.seq ?_
    refine WT.region ?_
    refine lq (q_move rfl) rfl ?_
    refine lq (q_add rfl rfl) rfl ?_
    refine lq (q_assign rfl) rfl ?_
    refine WL.nil ?_
    refine WT.seq ?_
    refine WT.region ?_
    refine lq (q_move rfl) rfl ?_
    refine lq (q_move rfl) rfl ?_
    refine lq (q_move rfl) rfl ?_
    refine lq (q_indexAddrH Sl_44 rfl rfl h3 hx2) rfl ?_
    refine lq (q_fieldAddr Fld_111_1 rfl) rfl ?_
    refine lq (q_fieldAddr Fld_109_1 rfl) rfl ?_
    refine lu (u_setH (js := [0]) (Rr := []) (o := 2) (vs := [.int .i64 (IntKind.i64.wrap ((IntKind.i64.wrap (s2 + 1)) + 1))]) (cs' := [.string x1, .int .i64 (IntKind.i64.wrap (s2 + 1)), .int .i64 (IntKind.i64.wrap ((IntKind.i64.wrap (s2 + 1)) + 1)), .string x2.V.S]) RTBind.lasts Sz_3 rfl rfl rfl rfl ⟨rfl, trivial⟩ rfl h3 rfl rfl (fun ap => (Dj.nil _))) rfl (fun Φ_4 D4 q3 => ?_)
    obtain ⟨⟨ap3, fr3⟩, h4⟩ := q3
    refine WL.nil ?_
    refine WT.seq ?_
    refine WT.region ?_
    refine lq (q_move rfl) rfl ?_
    refine lq (q_add rfl rfl) rfl ?_
    refine lq (q_assign rfl) rfl ?_
    refine WL.nil ?_
    refine WT.seq ?_
    refine WT.region ?_
    refine lq (q_move rfl) rfl ?_
    refine lq (q_move rfl) rfl ?_
    refine lq (q_move rfl) rfl ?_
    obtain ⟨x3, hx3, h⟩ := bind_some h
    refine lp (p_call Fun_69 rfl (fun w1 hw => m_l_markText_ok hw.fro N (IntKind.i64.wrap ((IntKind.i64.wrap ((IntKind.i64.wrap (s2 + 1)) + 1)) + 1)) hx3)) rfl ?_
    refine lq (q_indexAddrH Sl_44 rfl rfl h4 hx2) rfl ?_
    refine lq (q_fieldAddr Fld_111_1 rfl) rfl ?_
    refine lq (q_fieldAddr Fld_109_2 rfl) rfl ?_
    refine lu (u_setH (js := [0]) (Rr := []) (o := 3) (vs := [.string x3]) (cs' := [.string x1, .int .i64 (IntKind.i64.wrap (s2 + 1)), .int .i64 (IntKind.i64.wrap ((IntKind.i64.wrap (s2 + 1)) + 1)), .string x3]) RTBind.lasts Sz_9 rfl rfl rfl rfl ⟨rfl, trivial⟩ rfl h4 rfl rfl (fun ap => (Dj.nil _))) rfl (fun Φ_5 D5 q4 => ?_)
    obtain ⟨⟨ap4, fr4⟩, h5⟩ := q4
    refine WL.nil ?_
    refine WT.region ?_
    refine lq (q_move rfl) rfl ?_
    refine lq (q_add rfl rfl) rfl ?_
    refine lq (q_assign rfl) rfl ?_
    refine WL.nil ?_
    refine WT.inBlock ?_
    refine WT.region ?_
    refine lq (q_move rfl) rfl ?_
    refine lq (q_add rfl rfl) rfl ?_
    refine lq (q_assign rfl) rfl ?_
    refine WL.nil ?_
    have h6 := h5.unfocusF RTBind.flat (cs := [.string x1, .int .i64 (IntKind.i64.wrap (s2 + 1)), .int .i64 (IntKind.i64.wrap ((IntKind.i64.wrap (s2 + 1)) + 1)), .string x3]) (x' := (⟨x1, (⟨IntKind.i64.wrap (s2 + 1), IntKind.i64.wrap ((IntKind.i64.wrap (s2 + 1)) + 1), x3⟩ : TVal)⟩ : TBind)) ⟨rfl, rfl⟩
    refine WT.inLoop (WT.mono (l' := [(0, pv0), (1, .int .i64 (IntKind.i64.wrap ((IntKind.i64.wrap ((IntKind.i64.wrap ((IntKind.i64.wrap (s2 + 1)) + 1)) + 1)) + 1))), (5, .int .i64 (IntKind.i64.wrap (s3 + 1)))]) (S' := St w0 Φ_5 [] [ob pv0]) ⟨rfl, rfl, rfl, trivial⟩ (fun w1 hw => (hw.sel (js := [0]) rfl).selO (js := []) rfl) ?_)
    exact ih1 (Φ_5, (s1.set s3.toNat (⟨x1, (⟨IntKind.i64.wrap (s2 + 1), IntKind.i64.wrap ((IntKind.i64.wrap (s2 + 1)) + 1), x3⟩ : TVal)⟩ : TBind)), IntKind.i64.wrap ((IntKind.i64.wrap ((IntKind.i64.wrap ((IntKind.i64.wrap (s2 + 1)) + 1)) + 1)) + 1), IntKind.i64.wrap (s3 + 1)) ⟨h, h6⟩
  replace h := ite_f h c1
  refine WT.exit rfl ?_
  refine WT.seq ?_
  refine WT.region ?_
  refine lq (q_move rfl) rfl ?_
  refine lq (q_assign rfl) rfl ?_
  refine WL.nil ?_
  refine WT.ret Try.func25 (resOk.one rfl) (fun w1 hw => ?_)
  subst hb0
  cases h
  refine postG_of_St (js := [0]) hw rfl ⟨rfl, rfl, k1⟩
theorem m_l_markMatchS_ok {Φ : Hp} {w : World} (hΦ : In Φ w) (N : Nat) (p0 : (List TMatch)) (p1 : Int) {pv0 : Value} {pD0 : List Nat} (ph0 : OSl OTMatch 70 3 Φ pD0 pv0 p0) (hB : [ob pv0, pD0].flatten.Nodup) (hlt : ∀ k ∈ [ob pv0, pD0].flatten, k < w.heap.size) {r : Int × (List TMatch)} (h : m_l_markMatchS N p0 p1 = some r) :
    Calls Try.prog 34 [pv0, .int .i64 p1].toArray w (PostG Φ w [ob pv0, pD0].flatten (fun Φ' Fs v => ∃ (Do_0_0 : List Nat), v = .int .i64 r.1 ∧ Fs = [ob pv0, Do_0_0] ∧ OSl OTMatch 70 3 Φ' Do_0_0 pv0 r.2)) := by
  refine enter Try.func34 rfl Try.ntmps34 rfl (St.start hΦ [ob pv0, pD0] hB hlt) ?_
  generalize hb0 : (⟨w, [ob pv0, pD0].flatten, Φ⟩ : Base) = w0
  unfold m_l_markMatchS at h
  refine WT.seq ?_
  refine WT.region ?_
  refine lq (q_assign rfl) rfl ?_
  refine WL.nil ?_
  refine WT.seq ?_
  refine WT.seq ?_
  refine WT.region ?_
  refine lq (q_assign rfl) rfl ?_
  refine WL.nil ?_
  refine WT.block ?_
  refine WT.loop ?_
  refine WT.mono (l' := [(0, pv0), (1, .int .i64 p1), (5, .int .i64 0)]) (S' := St w0 Φ [] [ob pv0, pD0]) ⟨rfl, rfl, rfl, trivial⟩ (fun w1 hw => (hw.sel (js := [0, 0]) rfl).selO (js := []) rfl) ?_
  refine loop_ind (σ := Hp × (List TMatch) × List Nat × Int × Int) (fun s => [(0, pv0), (1, .int .i64 s.2.2.2.1), (5, .int .i64 s.2.2.2.2)]) (fun s => St w0 s.1 [] [ob pv0, s.2.2.1]) (fun m s => m_l_markMatchS_l1 N m s.2.1 s.2.2.2.1 s.2.2.2.2 = some r ∧ (OSl OTMatch 70 3 s.1 s.2.2.1 pv0 s.2.1)) (fun s hm => none_ne (show (none : Option (Int × (List TMatch))) = some r from hm.1)) (fun n1 ih1 s hm => ?_) N (Φ, p0, pD0, p1, 0) ⟨h, ph0⟩
  obtain ⟨Φ_1, s1, D1, s2, s3⟩ := s
  obtain ⟨h, k1⟩ := hm
  replace h : m_l_markMatchS_l1 N (n1 + 1) s1 s2 s3 = some r := h
  replace k1 : OSl OTMatch 70 3 Φ_1 D1 pv0 s1 := k1
  show WT _ _ [(0, pv0), (1, .int .i64 s2), (5, .int .i64 s3)] (St w0 Φ_1 [] [ob pv0, D1])
  unfold m_l_markMatchS_l1 at h
  refine WT.seq ?_
  refine WT.seq ?_
  refine WT.region ?_
  refine lq (q_move rfl) rfl ?_
  refine lq (q_move rfl) rfl ?_
  refine lq (q_lenR Sl_73 rfl rfl (k1.rslG OTMatch.gives)) rfl ?_
  refine lq (q_lss rfl rfl) rfl ?_
  refine WL.nil ?_
  refine WT.cond rfl (fun c1 => ?_) (fun c1 => ?_)
  · replace h := ite_t h c1
    refine WT.skip ?_
    refine WT.seq ?_
    refine WT.block ?_
    refine WT.seq ?_
    refine WT.region ?_
    refine lq (q_move rfl) rfl ?_
    refine lq (q_move rfl) rfl ?_
    refine lq (q_move rfl) rfl ?_
    obtain ⟨x1, hx1, h⟩ := bind_some h
    obtain ⟨cs1, F1, D2, h1, r1, kf1, sp1⟩ := k1.focus hx1
    obtain ⟨v1, v2, rfl, rfl, h2, h3⟩ := r1
    refine WL.conv (S' := St w0 Φ_1 [] [ob v1, ob v2, D2, ob pv0]) (fun w1 hw => hw.re (js := [1]) (Bs := [ob v1, ob v2, D2]) rfl (by simpa [List.append_assoc] using sp1)) ?_
    refine lq (q_indexAddrH Sl_73 rfl rfl h1 hx1) rfl ?_
    refine lq (q_fieldAddr Fld_70_0 rfl) rfl ?_
    refine lu (u_setH (js := [3]) (Rr := [ob v1, ob v2, D2]) (o := 0) (vs := [.int .i64 s2]) (cs' := [.int .i64 s2, v1, v2]) OTMatch.lasts Sz_3 rfl rfl rfl rfl ⟨rfl, trivial⟩ rfl h1 rfl rfl (fun ap => (ap.r (i := 2) rfl))) rfl (fun Φ_2 D3 q1 => ?_)
    obtain ⟨⟨ap1, fr1⟩, h4⟩ := q1
    replace h2 := h2.frame RI.lasts fr1 (ap1.r (i := 0) rfl) (Dj.nil _)
    replace h3 := h3.frame RTBind.lasts fr1 (ap1.r (i := 1) rfl) (Dj.nil _)
    refine WL.nil ?_
    refine WT.seq ?_
    refine WT.region ?_
    refine lq (q_move rfl) rfl ?_
    refine lq (q_add rfl rfl) rfl ?_
    refine lq (q_assign rfl) rfl ?_
    refine WL.nil ?_
    refine WT.seq ?_
    refine WT.region ?_
    refine lq (q_move rfl) rfl ?_
    refine lq (q_move rfl) rfl ?_
    refine lq (q_indexAddrH Sl_73 rfl rfl h4 hx1) rfl ?_
    refine lq (q_fieldAddr Fld_70_1 rfl) rfl ?_
    refine lq (q_load1 T1_41 rfl (fun w1 hw => (h4.rg.of_eq 1 1 rfl rfl : rg _ _ _ [v1]).rangeAt hw.fro)) rfl ?_
    refine lq (q_move rfl) rfl ?_
    obtain ⟨x2, hx2, h⟩ := bind_some h
    refine lc (k_call (js := [1]) (R := [ob pv0, ob v2, D2]) Fun_24 rfl rfl (fun w1 hw ap hl => m_l_markIntS_ok hw.fro N x1.Ids (IntKind.i64.wrap (s2 + 1)) h2 ap.nd hl hx2)) rfl (fun v3 Φ_3 F2 q2 => ?_)
    obtain ⟨ap2, fr2, rfl, rfl, h5⟩ := q2
    replace h4 := h4.frame OTMatch.lasts fr2 (ap2.r (i := 0) rfl) (ap2.r (i := 2) rfl)
    replace h3 := h3.frame RTBind.lasts fr2 (ap2.r (i := 1) rfl) (Dj.nil _)
    refine lq (q_assign rfl) rfl ?_
    refine WL.nil ?_
    refine WT.region ?_
    refine lq (q_move rfl) rfl ?_
    refine lq (q_move rfl) rfl ?_
    refine lq (q_indexAddrH Sl_73 rfl rfl h4 hx1) rfl ?_
    refine lq (q_fieldAddr Fld_70_2 rfl) rfl ?_
    refine lq (q_load1 T1_44 rfl (fun w1 hw => (h4.rg.of_eq 2 1 rfl rfl : rg _ _ _ [v2]).rangeAt hw.fro)) rfl ?_
    refine lq (q_move rfl) rfl ?_
    obtain ⟨x3, hx3, h⟩ := bind_some h
    refine lc (k_call (js := [2]) (R := [ob v1, ob pv0, D2]) Fun_25 rfl rfl (fun w1 hw ap hl => m_l_markBindS_ok hw.fro N x1.Binds x2.1 h3 ap.nd hl hx3)) rfl (fun v4 Φ_4 F3 q3 => ?_)
    obtain ⟨ap3, fr3, rfl, rfl, h6⟩ := q3
    replace h4 := h4.frame OTMatch.lasts fr3 (ap3.r (i := 1) rfl) (ap3.r (i := 2) rfl)
    replace h5 := h5.frame RI.lasts fr3 (ap3.r (i := 0) rfl) (Dj.nil _)
    refine lq (q_assign rfl) rfl ?_
    refine WL.nil ?_
    refine WT.inBlock ?_
    refine WT.region ?_
    refine lq (q_move rfl) rfl ?_
    refine lq (q_add rfl rfl) rfl ?_
    refine lq (q_assign rfl) rfl ?_
    refine WL.nil ?_
    have r2 : OTMatch Φ_4 _ [.int .i64 s2, v1, v2] (⟨s2, x2.2, x3.2⟩ : TMatch) := ⟨v1, v2, rfl, rfl, h5, h6⟩
    obtain ⟨D4, h7, sp2⟩ := h4.unfocus r2 (OTMatch.knows _ _ _ _ r2)
    refine WT.conv (S' := St w0 Φ_4 [] [D4, ob pv0]) (fun w1 hw => hw.merge (js := [1, 0, 1]) rfl (by simpa [List.append_assoc, ob_nil] using sp2)) ?_
    refine WT.inLoop (WT.mono (l' := [(0, pv0), (1, .int .i64 x3.1), (5, .int .i64 (IntKind.i64.wrap (s3 + 1)))]) (S' := St w0 Φ_4 [] [ob pv0, D4]) ⟨rfl, rfl, rfl, trivial⟩ (fun w1 hw => (hw.sel (js := [1, 0]) rfl).selO (js := []) rfl) ?_)
    exact ih1 (Φ_4, (s1.set s3.toNat (⟨s2, x2.2, x3.2⟩ : TMatch)), D4, x3.1, IntKind.i64.wrap (s3 + 1)) ⟨h, h7⟩
  replace h := ite_f h c1
  refine WT.exit rfl ?_
  refine WT.seq ?_
  refine WT.region ?_
  refine lq (q_move rfl) rfl ?_
  refine lq (q_assign rfl) rfl ?_
  refine WL.nil ?_
  refine WT.ret Try.func34 (resOk.one rfl) (fun w1 hw => ?_)
  subst hb0
  cases h
  refine postG_of_St (js := [0, 0]) hw rfl ⟨D1, rfl, rfl, k1⟩
theorem m_l_markMatch_ok {Φ : Hp} {w : World} (hΦ : In Φ w) (N : Nat) (p0 : TMatch) (p1 : Int) {pv0_0 : Value} {pv0_1 : Value} (ph0_0 : OSl (RI .i64) 3 1 Φ [] pv0_0 p0.Ids) (ph0_1 : OSl RTBind 111 4 Φ [] pv0_1 p0.Binds) (hB : [ob pv0_0, ob pv0_1].flatten.Nodup) (hlt : ∀ k ∈ [ob pv0_0, ob pv0_1].flatten, k < w.heap.size) {r : Int × (List Int) × (List TBind)} (h : m_l_markMatch N p0 p1 = some r) :
    Calls Try.prog 35 [.agg [.int .i64 p0.Rule, pv0_0, pv0_1].toArray, .int .i64 p1].toArray w (PostG Φ w [ob pv0_0, ob pv0_1].flatten (fun Φ' Fs v => v = .int .i64 r.1 ∧ Fs = [ob pv0_0, ob pv0_1] ∧ OSl (RI .i64) 3 1 Φ' [] pv0_0 r.2.1 ∧ OSl RTBind 111 4 Φ' [] pv0_1 r.2.2)) := by
  refine enter Try.func35 rfl Try.ntmps35 rfl (St.start hΦ [ob pv0_0, ob pv0_1] hB hlt) ?_
  unfold m_l_markMatch at h
  refine WT.seq ?_
  refine WT.region ?_
  refine ln (n_box (C := #[.int .i64 p0.Rule, pv0_0, pv0_1]) rfl rfl) rfl (fun b_1 => ?_)
  refine lq (q_assign rfl) rfl ?_
  refine WL.nil ?_
  refine WT.seq ?_
  refine WT.region ?_
  refine lq (q_fieldAddr Fld_70_1 rfl) rfl ?_
  refine lq (q_load1 T1_41 rfl (fun w1 hw => hw.rgO (i := 0) rfl 1 1 [pv0_0] rfl)) rfl ?_
  refine lq (q_move rfl) rfl ?_
  obtain ⟨x1, hx1, h⟩ := bind_some h
  refine lc (k_call (js := [0]) (R := [ob pv0_1]) Fun_24 rfl rfl (fun w1 hw ap hl => m_l_markIntS_ok hw.fro N p0.Ids p1 ph0_0 ap.nd hl hx1)) rfl (fun v1 Φ_1 F1 q1 => ?_)
  obtain ⟨ap1, fr1, rfl, rfl, h1⟩ := q1
  replace ph0_1 := ph0_1.frame RTBind.lasts fr1 (ap1.r (i := 0) rfl) (Dj.nil _)
  refine lq (q_assign rfl) rfl ?_
  refine WL.nil ?_
  refine WT.seq ?_
  refine WT.region ?_
  refine lq (q_fieldAddr Fld_70_2 rfl) rfl ?_
  refine lq (q_load1 T1_44 rfl (fun w1 hw => hw.rgO (i := 0) rfl 2 1 [pv0_1] rfl)) rfl ?_
  refine lq (q_move rfl) rfl ?_
  obtain ⟨x2, hx2, h⟩ := bind_some h
  refine lc (k_call (js := [1]) (R := [ob pv0_0]) Fun_25 rfl rfl (fun w1 hw ap hl => m_l_markBindS_ok hw.fro N p0.Binds x1.1 ph0_1 ap.nd hl hx2)) rfl (fun v2 Φ_2 F2 q2 => ?_)
  obtain ⟨ap2, fr2, rfl, rfl, h2⟩ := q2
  replace h1 := h1.frame RI.lasts fr2 (ap2.r (i := 0) rfl) (Dj.nil _)
  refine lq (q_assign rfl) rfl ?_
  refine WL.nil ?_
  refine WT.seq ?_
  refine WT.region ?_
  refine lq (q_move rfl) rfl ?_
  refine lq (q_assign rfl) rfl ?_
  refine WL.nil ?_
  refine WT.ret Try.func35 (resOk.one rfl) (fun w1 hw => ?_)
  cases h
  refine postG_of_St (js := [1, 0]) hw rfl ⟨rfl, rfl, h1, h2⟩
theorem m_l_heldBindS_ok {Φ : Hp} {w : World} (hΦ : In Φ w) (N : Nat) (p0 : (List TBind)) (p1 : Int) {pv0 : Value} {pG0 : List Nat} (ph0 : RSl RTBind 4 Φ pG0 pv0 p0) {r : Int} (h : m_l_heldBindS N p0 p1 = some r) :
    Calls Try.prog 26 [pv0, .int .i64 p1].toArray w (Post (.int .i64 r) w) := by
  refine enter Try.func26 rfl Try.ntmps26 rfl (St.start0 hΦ) ?_
  generalize hb0 : (⟨w, [], Φ⟩ : Base) = w0
  unfold m_l_heldBindS at h
  refine WT.seq ?_
  refine WT.region ?_
  refine lq (q_assign rfl) rfl ?_
  refine WL.nil ?_
  refine WT.seq ?_
  refine WT.seq ?_
  refine WT.region ?_
  refine lq (q_assign rfl) rfl ?_
  refine WL.nil ?_
  refine WT.block ?_
  refine WT.loop ?_
  refine WT.mono (l' := [(0, pv0), (1, .int .i64 p1), (5, .int .i64 0)]) (S' := St w0 Φ [] []) ⟨rfl, rfl, rfl, trivial⟩ (fun w1 hw => (hw.sel (js := []) rfl).selO (js := []) rfl) ?_
  refine loop_ind (σ := Int × Int) (fun s => [(0, pv0), (1, .int .i64 s.1), (5, .int .i64 s.2)]) (fun s => St w0 Φ [] []) (fun m s => m_l_heldBindS_l1 N p0 m s.1 s.2 = some r) (fun s hm => none_ne (show (none : Option (Int)) = some r from hm)) (fun n1 ih1 s hm => ?_) N (p1, 0) h
  obtain ⟨s1, s2⟩ := s
  have h : m_l_heldBindS_l1 N p0 (n1 + 1) s1 s2 = some r := hm
  show WT _ _ [(0, pv0), (1, .int .i64 s1), (5, .int .i64 s2)] (St w0 Φ [] [])
  unfold m_l_heldBindS_l1 at h
  refine WT.seq ?_
  refine WT.seq ?_
  refine WT.region ?_
  refine lq (q_move rfl) rfl ?_
  refine lq (q_move rfl) rfl ?_
  refine lq (q_lenR Sl_44 rfl rfl ph0) rfl ?_
  refine lq (q_lss rfl rfl) rfl ?_
  refine WL.nil ?_
  refine WT.cond rfl (fun c1 => ?_) (fun c1 => ?_)
  · replace h := ite_t h c1
    refine WT.skip ?_
    refine WT.seq ?_
    refine WT.block ?_
    refine WT.seq ?_
    refine WT.seq ?_
    refine WT.draw mixed (by kernel_rfl) (fun _ h => h.drew) ?_
    refine qq (q_move rfl) rfl ?_
    refine qq (q_move rfl) rfl ?_
    obtain ⟨x1, hx1, h⟩ := bind_some h
    obtain ⟨cs1, F1, -, g1, hb1, hs1, r1⟩ := ph0.el (idx_some hx1).2.2
    obtain ⟨rfl, -⟩ := r1
    refine qq (q_indexAddr Sl_44 rfl rfl ph0 hx1) rfl ?_
    refine qq (q_fieldAddr Fld_111_0 rfl) rfl ?_
    refine qq (q_load1 T1_9 rfl (fun w1 hw => (g1.of_eq 0 1 rfl rfl : rg _ _ _ [.string x1.Name]).rangeAt hw.fro)) rfl ?_
    refine qq (q_move rfl) rfl ?_
    obtain ⟨x2, hx2, h⟩ := bind_some h
    refine qp (p_call Fun_69 rfl (fun w1 hw => m_l_markText_ok hw.fro N s1 hx2)) rfl ?_
    refine qq (q_sne rfl rfl) rfl ?_
    refine WQ.nil ?_
    refine WT.cond rfl (fun c2 => ?_) (fun c2 => ?_)
    · replace h := ite_t h c2
      refine WT.seq ?_
      refine WT.region ?_
      refine lq (q_assign rfl) rfl ?_
      refine WL.nil ?_
      refine WT.ret Try.func26 (resOk.one rfl) (fun w1 hw => ?_)
      subst hb0
      cases h
      exact post_of_St hw
    replace h := ite_f h c2
    refine WT.skip ?_
    refine WT.seq ?_
    refine WT.region ?_
    refine lq (q_move rfl) rfl ?_
    refine lq (q_add rfl rfl) rfl ?_
    refine lq (q_assign rfl) rfl ?_
    refine WL.nil ?_
    refine WT.seq ?_
    refine WT.seq ?_
    refine WT.region ?_
    refine lq (q_move rfl) rfl ?_
    refine lq (q_move rfl) rfl ?_
    obtain ⟨x3, hx3, h⟩ := bind_some h
    obtain ⟨cs2, F2, -, g2, hb2, hs2, r2⟩ := ph0.el (idx_some hx3).2.2
    obtain ⟨rfl, -⟩ := r2
    refine lq (q_indexAddr Sl_44 rfl rfl ph0 hx3) rfl ?_
    refine lq (q_fieldAddr Fld_111_1 rfl) rfl ?_
    refine lq (q_fieldAddr Fld_109_0 rfl) rfl ?_
    refine lq (q_load1 T1_3 rfl (fun w1 hw => (g2.of_eq 1 1 (by omega) rfl : rg _ _ _ [.int .i64 x3.V.K]).rangeAt hw.fro)) rfl ?_
    refine lq (q_move rfl) rfl ?_
    refine lq (q_neq rfl rfl) rfl ?_
    refine WL.nil ?_
    refine WT.cond rfl (fun c3 => ?_) (fun c3 => ?_)
    · replace h := ite_t h c3
      refine WT.seq ?_
      refine WT.region ?_
      refine lq (q_assign rfl) rfl ?_
      refine WL.nil ?_
      refine WT.ret Try.func26 (resOk.one rfl) (fun w1 hw => ?_)
      subst hb0
      cases h
      exact post_of_St hw
    replace h := ite_f h c3
    refine WT.skip ?_
    refine WT.seq ?_
    refine WT.region ?_
    refine lq (q_move rfl) rfl ?_
    refine lq (q_add rfl rfl) rfl ?_
    refine lq (q_assign rfl) rfl ?_
    refine WL.nil ?_
    refine WT.seq ?_
    refine WT.seq ?_
    refine WT.region ?_
    refine lq (q_move rfl) rfl ?_
    refine lq (q_move rfl) rfl ?_
    obtain ⟨x4, hx4, h⟩ := bind_some h
    obtain ⟨cs3, F3, -, g3, hb3, hs3, r3⟩ := ph0.el (idx_some hx4).2.2
    obtain ⟨rfl, -⟩ := r3
    refine lq (q_indexAddr Sl_44 rfl rfl ph0 hx4) rfl ?_
    refine lq (q_fieldAddr Fld_111_1 rfl) rfl ?_
    refine lq (q_fieldAddr Fld_109_1 rfl) rfl ?_
    refine lq (q_load1 T1_3 rfl (fun w1 hw => (g3.of_eq 2 1 (by omega) rfl : rg _ _ _ [.int .i64 x4.V.N]).rangeAt hw.fro)) rfl ?_
    refine lq (q_move rfl) rfl ?_
    refine lq (q_neq rfl rfl) rfl ?_
    refine WL.nil ?_
    refine WT.cond rfl (fun c4 => ?_) (fun c4 => ?_)
    · replace h := ite_t h c4
      refine WT.seq ?_
      refine WT.region ?_
      refine lq (q_assign rfl) rfl ?_
      refine WL.nil ?_
      refine WT.ret Try.func26 (resOk.one rfl) (fun w1 hw => ?_)
      subst hb0
      cases h
      exact post_of_St hw
    replace h := ite_f h c4
    refine WT.skip ?_
    refine WT.seq ?_
    refine WT.region ?_
    refine lq (q_move rfl) rfl ?_
    refine lq (q_add rfl rfl) rfl ?_
    refine lq (q_assign rfl) rfl ?_
    refine WL.nil ?_
    refine WT.seq ?_
    refine WT.seq ?_
    refine WT.draw mixed (by kernel_rfl) (fun _ h => h.drew) ?_
    refine qq (q_move rfl) rfl ?_
    refine qq (q_move rfl) rfl ?_
    obtain ⟨x5, hx5, h⟩ := bind_some h
    obtain ⟨cs4, F4, -, g4, hb4, hs4, r4⟩ := ph0.el (idx_some hx5).2.2
    obtain ⟨rfl, -⟩ := r4
    refine qq (q_indexAddr Sl_44 rfl rfl ph0 hx5) rfl ?_
    refine qq (q_fieldAddr Fld_111_1 rfl) rfl ?_
    refine qq (q_fieldAddr Fld_109_2 rfl) rfl ?_
    refine qq (q_load1 T1_9 rfl (fun w1 hw => (g4.of_eq 3 1 (by omega) rfl : rg _ _ _ [.string x5.V.S]).rangeAt hw.fro)) rfl ?_
    refine qq (q_move rfl) rfl ?_
    obtain ⟨x6, hx6, h⟩ := bind_some h
    refine qp (p_call Fun_69 rfl (fun w1 hw => m_l_markText_ok hw.fro N (IntKind.i64.wrap ((IntKind.i64.wrap ((IntKind.i64.wrap (s1 + 1)) + 1)) + 1)) hx6)) rfl ?_
    refine qq (q_sne rfl rfl) rfl ?_
    refine WQ.nil ?_
    refine WT.cond rfl (fun c5 => ?_) (fun c5 => ?_)
    · replace h := ite_t h c5
      refine WT.seq ?_
      refine WT.region ?_
      refine lq (q_assign rfl) rfl ?_
      refine WL.nil ?_
      refine WT.ret Try.func26 (resOk.one rfl) (fun w1 hw => ?_)
      subst hb0
      cases h
      exact post_of_St hw
    replace h := ite_f h c5
    refine WT.skip ?_
    refine WT.region ?_
    refine lq (q_move rfl) rfl ?_
    refine lq (q_add rfl rfl) rfl ?_
    refine lq (q_assign rfl) rfl ?_
    refine WL.nil ?_
    refine WT.inBlock ?_
    refine WT.region ?_
    refine lq (q_move rfl) rfl ?_
    refine lq (q_add rfl rfl) rfl ?_
    refine lq (q_assign rfl) rfl ?_
    refine WL.nil ?_
    refine WT.inLoop (WT.mono (l' := [(0, pv0), (1, .int .i64 (IntKind.i64.wrap ((IntKind.i64.wrap ((IntKind.i64.wrap ((IntKind.i64.wrap (s1 + 1)) + 1)) + 1)) + 1))), (5, .int .i64 (IntKind.i64.wrap (s2 + 1)))]) (S' := St w0 Φ [] []) ⟨rfl, rfl, rfl, trivial⟩ (fun w1 hw => (hw.sel (js := []) rfl).selO (js := []) rfl) ?_)
    exact ih1 (IntKind.i64.wrap ((IntKind.i64.wrap ((IntKind.i64.wrap ((IntKind.i64.wrap (s1 + 1)) + 1)) + 1)) + 1), IntKind.i64.wrap (s2 + 1)) h
  replace h := ite_f h c1
  refine WT.exit rfl ?_
  refine WT.seq ?_
  refine WT.region ?_
  refine lq (q_move rfl) rfl ?_
  refine lq (q_assign rfl) rfl ?_
  refine WL.nil ?_
  refine WT.ret Try.func26 (resOk.one rfl) (fun w1 hw => ?_)
  subst hb0
  cases h
  exact post_of_St hw
theorem m_l_heldIntS_ok {Φ : Hp} {w : World} (hΦ : In Φ w) (N : Nat) (p0 : (List Int)) (p1 : Int) {pv0 : Value} {pG0 : List Nat} (ph0 : RSl (RI .i64) 1 Φ pG0 pv0 p0) {r : Int} (h : m_l_heldIntS N p0 p1 = some r) :
    Calls Try.prog 81 [pv0, .int .i64 p1].toArray w (Post (.int .i64 r) w) := by
  refine enter Try.func81 rfl Try.ntmps81 rfl (St.start0 hΦ) ?_
  generalize hb0 : (⟨w, [], Φ⟩ : Base) = w0
  unfold m_l_heldIntS at h
  refine WT.seq ?_
  refine WT.region ?_
  refine lq (q_assign rfl) rfl ?_
  refine WL.nil ?_
  refine WT.seq ?_
  refine WT.seq ?_
  refine WT.region ?_
  refine lq (q_assign rfl) rfl ?_
  refine WL.nil ?_
  refine WT.block ?_
  refine WT.loop ?_
  refine WT.mono (l' := [(0, pv0), (1, .int .i64 p1), (5, .int .i64 0)]) (S' := St w0 Φ [] []) ⟨rfl, rfl, rfl, trivial⟩ (fun w1 hw => (hw.sel (js := []) rfl).selO (js := []) rfl) ?_
  refine loop_ind (σ := Int × Int) (fun s => [(0, pv0), (1, .int .i64 s.1), (5, .int .i64 s.2)]) (fun s => St w0 Φ [] []) (fun m s => m_l_heldIntS_l1 N p0 m s.1 s.2 = some r) (fun s hm => none_ne (show (none : Option (Int)) = some r from hm)) (fun n1 ih1 s hm => ?_) N (p1, 0) h
  obtain ⟨s1, s2⟩ := s
  have h : m_l_heldIntS_l1 N p0 (n1 + 1) s1 s2 = some r := hm
  show WT _ _ [(0, pv0), (1, .int .i64 s1), (5, .int .i64 s2)] (St w0 Φ [] [])
  unfold m_l_heldIntS_l1 at h
  refine WT.seq ?_
  refine WT.seq ?_
  refine WT.region ?_
  refine lq (q_move rfl) rfl ?_
  refine lq (q_move rfl) rfl ?_
  refine lq (q_lenR Sl_41 rfl rfl ph0) rfl ?_
  refine lq (q_lss rfl rfl) rfl ?_
  refine WL.nil ?_
  refine WT.cond rfl (fun c1 => ?_) (fun c1 => ?_)
  · replace h := ite_t h c1
    refine WT.skip ?_
    refine WT.seq ?_
    refine WT.block ?_
    refine WT.seq ?_
    refine WT.seq ?_
    refine WT.region ?_
    refine lq (q_move rfl) rfl ?_
    refine lq (q_move rfl) rfl ?_
    obtain ⟨x1, hx1, h⟩ := bind_some h
    obtain ⟨cs1, F1, -, g1, hb1, hs1, r1⟩ := ph0.el (idx_some hx1).2.2
    obtain ⟨rfl, -⟩ := r1
    refine lq (q_indexAddr Sl_41 rfl rfl ph0 hx1) rfl ?_
    refine lq (q_load1 T1_3 rfl (fun w1 hw => (g1.of_eq 0 1 rfl rfl : rg _ _ _ [.int .i64 x1]).rangeAt hw.fro)) rfl ?_
    refine lq (q_move rfl) rfl ?_
    refine lq (q_neq rfl rfl) rfl ?_
    refine WL.nil ?_
    refine WT.cond rfl (fun c2 => ?_) (fun c2 => ?_)
    · replace h := ite_t h c2
      refine WT.seq ?_
      refine WT.region ?_
      refine lq (q_assign rfl) rfl ?_
      refine WL.nil ?_
      refine WT.ret Try.func81 (resOk.one rfl) (fun w1 hw => ?_)
      subst hb0
      cases h
      exact post_of_St hw
    replace h := ite_f h c2
    refine WT.skip ?_
    refine WT.region ?_
    refine lq (q_move rfl) rfl ?_
    refine lq (q_add rfl rfl) rfl ?_
    refine lq (q_assign rfl) rfl ?_
    refine WL.nil ?_
    refine WT.inBlock ?_
    refine WT.region ?_
    refine lq (q_move rfl) rfl ?_
    refine lq (q_add rfl rfl) rfl ?_
    refine lq (q_assign rfl) rfl ?_
    refine WL.nil ?_
    refine WT.inLoop (WT.mono (l' := [(0, pv0), (1, .int .i64 (IntKind.i64.wrap (s1 + 1))), (5, .int .i64 (IntKind.i64.wrap (s2 + 1)))]) (S' := St w0 Φ [] []) ⟨rfl, rfl, rfl, trivial⟩ (fun w1 hw => (hw.sel (js := []) rfl).selO (js := []) rfl) ?_)
    exact ih1 (IntKind.i64.wrap (s1 + 1), IntKind.i64.wrap (s2 + 1)) h
  replace h := ite_f h c1
  refine WT.exit rfl ?_
  refine WT.seq ?_
  refine WT.region ?_
  refine lq (q_move rfl) rfl ?_
  refine lq (q_assign rfl) rfl ?_
  refine WL.nil ?_
  refine WT.ret Try.func81 (resOk.one rfl) (fun w1 hw => ?_)
  subst hb0
  cases h
  exact post_of_St hw
theorem m_l_heldMatch_ok {Φ : Hp} {w : World} (hΦ : In Φ w) (N : Nat) (p0 : TMatch) (p1 : Int) {pv0_0 : Value} {pG0_0 : List Nat} {pv0_1 : Value} {pG0_1 : List Nat} (ph0_0 : RSl (RI .i64) 1 Φ pG0_0 pv0_0 p0.Ids) (ph0_1 : RSl RTBind 4 Φ pG0_1 pv0_1 p0.Binds) {r : Int} (h : m_l_heldMatch N p0 p1 = some r) :
    Calls Try.prog 36 [.agg [.int .i64 p0.Rule, pv0_0, pv0_1].toArray, .int .i64 p1].toArray w (Post (.int .i64 r) w) := by
  refine enter Try.func36 rfl Try.ntmps36 rfl (St.start0 hΦ) ?_
  unfold m_l_heldMatch at h
  refine WT.seq ?_
  refine WT.region ?_
  refine ln (n_box (C := #[.int .i64 p0.Rule, pv0_0, pv0_1]) rfl rfl) rfl (fun b_1 => ?_)
  refine lq (q_assign rfl) rfl ?_
  refine WL.nil ?_
  refine WT.seq ?_
  refine WT.region ?_
  refine lq (q_fieldAddr Fld_70_1 rfl) rfl ?_
  refine lq (q_load1 T1_41 rfl (fun w1 hw => hw.rgO (i := 0) rfl 1 1 [pv0_0] rfl)) rfl ?_
  refine lq (q_move rfl) rfl ?_
  obtain ⟨x1, hx1, h⟩ := bind_some h
  refine lp (p_call Fun_81 rfl (fun w1 hw => m_l_heldIntS_ok hw.fro N p0.Ids p1 ph0_0 hx1)) rfl ?_
  refine lq (q_assign rfl) rfl ?_
  refine WL.nil ?_
  refine WT.seq ?_
  refine WT.seq ?_
  refine WT.region ?_
  refine lq (q_move rfl) rfl ?_
  refine lq (q_lss rfl rfl) rfl ?_
  refine WL.nil ?_
  refine WT.cond rfl (fun c1 => ?_) (fun c1 => ?_)
  · replace h := ite_t h c1
    refine WT.seq ?_
    refine WT.region ?_
    refine lq (q_assign rfl) rfl ?_
    refine WL.nil ?_
    refine WT.ret Try.func36 (resOk.one rfl) (fun w1 hw => ?_)
    cases h
    exact post_of_St hw
  replace h := ite_f h c1
  refine WT.skip ?_
  refine WT.seq ?_
  refine WT.region ?_
  refine lq (q_fieldAddr Fld_70_2 rfl) rfl ?_
  refine lq (q_load1 T1_44 rfl (fun w1 hw => hw.rgO (i := 0) rfl 2 1 [pv0_1] rfl)) rfl ?_
  refine lq (q_move rfl) rfl ?_
  obtain ⟨x2, hx2, h⟩ := bind_some h
  refine lp (p_call Fun_26 rfl (fun w1 hw => m_l_heldBindS_ok hw.fro N p0.Binds x1 ph0_1 hx2)) rfl ?_
  refine lq (q_assign rfl) rfl ?_
  refine WL.nil ?_
  refine WT.seq ?_
  refine WT.seq ?_
  refine WT.region ?_
  refine lq (q_move rfl) rfl ?_
  refine lq (q_lss rfl rfl) rfl ?_
  refine WL.nil ?_
  refine WT.cond rfl (fun c2 => ?_) (fun c2 => ?_)
  · replace h := ite_t h c2
    refine WT.seq ?_
    refine WT.region ?_
    refine lq (q_assign rfl) rfl ?_
    refine WL.nil ?_
    refine WT.ret Try.func36 (resOk.one rfl) (fun w1 hw => ?_)
    cases h
    exact post_of_St hw
  replace h := ite_f h c2
  refine WT.skip ?_
  refine WT.seq ?_
  refine WT.region ?_
  refine lq (q_move rfl) rfl ?_
  refine lq (q_assign rfl) rfl ?_
  refine WL.nil ?_
  refine WT.ret Try.func36 (resOk.one rfl) (fun w1 hw => ?_)
  cases h
  exact post_of_St hw
theorem m_l_FnExactPickMatch_ok {Φ : Hp} {w : World} (hΦ : In Φ w) (N : Nat) (p0 : TDef) (p1 : (List TMatch)) (p2 : (List TMatch)) {pv0_0 : Value} {pG0_0 : List Nat} {pv1 : Value} {pG1 : List Nat} {pv2 : Value} {pG2 : List Nat} (ph0_0 : RSl RTRule 5 Φ pG0_0 pv0_0 p0.Rules) (ph1 : RSl RTMatch 3 Φ pG1 pv1 p1) (ph2 : RSl RTMatch 3 Φ pG2 pv2 p2) {r : Bool} (h : m_l_FnExactPickMatch N p0 p1 p2 = some r) :
    Calls Try.prog 5 [.agg [.string p0.Name, pv0_0].toArray, pv1, pv2].toArray w (Post (.bool r) w) := by
  refine enter Try.func5 rfl Try.ntmps5 rfl (St.start0 hΦ) ?_
  have pa0_0 : Old ⟨w, [], Φ⟩ pG0_0 := Old.mk hΦ ph0_0.kn (Dj.empty _)
  have pa1 : Old ⟨w, [], Φ⟩ pG1 := Old.mk hΦ ph1.kn (Dj.empty _)
  have pa2 : Old ⟨w, [], Φ⟩ pG2 := Old.mk hΦ ph2.kn (Dj.empty _)
  unfold m_l_FnExactPickMatch at h
  refine WT.seq ?_
  refine WT.region ?_
  refine ln (n_box (C := #[.string p0.Name, pv0_0]) rfl rfl) rfl (fun b_1 => ?_)
  refine lq (q_assign rfl) rfl ?_
  refine WL.nil ?_
  refine WT.seq ?_
  refine WT.region ?_
  refine lq (q_assign rfl) rfl ?_
  refine WL.nil ?_
  refine WT.seq ?_
  refine WT.region ?_
  refine lq (q_loadN Tn_24 rfl (fun w1 hw => hw.rgO (i := 0) rfl 0 2 [.string p0.Name, pv0_0] rfl) rfl) rfl ?_
  refine lq (q_move rfl) rfl ?_
  obtain ⟨x1, hx1, h⟩ := bind_some h
  refine lp (p_call Fun_6 rfl (fun w1 hw => m_l_szDef_ok hw.fro N p0 1048576 ph0_0 hx1)) rfl ?_
  refine lq (q_assign rfl) rfl ?_
  refine WL.nil ?_
  refine WT.seq ?_
  refine WT.seq ?_
  refine WT.region ?_
  refine lq (q_move rfl) rfl ?_
  refine lq (q_lss rfl rfl) rfl ?_
  refine WL.nil ?_
  refine WT.cond rfl (fun c1 => ?_) (fun c1 => ?_)
  · replace h := ite_t h c1
    refine WT.seq ?_
    refine WT.region ?_
    refine lq (q_assign rfl) rfl ?_
    refine WL.nil ?_
    refine WT.ret Try.func5 (resOk.one rfl) (fun w1 hw => ?_)
    cases h
    exact post_of_St hw
  replace h := ite_f h c1
  refine WT.skip ?_
  refine WT.seq ?_
  refine WT.region ?_
  refine lq (q_move rfl) rfl ?_
  refine lq (q_move rfl) rfl ?_
  obtain ⟨x2, hx2, h⟩ := bind_some h
  refine lp (p_call Fun_27 rfl (fun w1 hw => m_l_szMatchS_ok hw.fro N p1 x1 ph1 hx2)) rfl ?_
  refine lq (q_assign rfl) rfl ?_
  refine WL.nil ?_
  refine WT.seq ?_
  refine WT.seq ?_
  refine WT.region ?_
  refine lq (q_move rfl) rfl ?_
  refine lq (q_lss rfl rfl) rfl ?_
  refine WL.nil ?_
  refine WT.cond rfl (fun c2 => ?_) (fun c2 => ?_)
  · replace h := ite_t h c2
    refine WT.seq ?_
    refine WT.region ?_
    refine lq (q_assign rfl) rfl ?_
    refine WL.nil ?_
    refine WT.ret Try.func5 (resOk.one rfl) (fun w1 hw => ?_)
    cases h
    exact post_of_St hw
  replace h := ite_f h c2
  refine WT.skip ?_
  refine WT.seq ?_
  refine WT.region ?_
  refine lq (q_move rfl) rfl ?_
  refine lq (q_move rfl) rfl ?_
  obtain ⟨x3, hx3, h⟩ := bind_some h
  refine lp (p_call Fun_27 rfl (fun w1 hw => m_l_szMatchS_ok hw.fro N p2 x2 ph2 hx3)) rfl ?_
  refine lq (q_assign rfl) rfl ?_
  refine WL.nil ?_
  refine WT.seq ?_
  refine WT.seq ?_
  refine WT.region ?_
  refine lq (q_move rfl) rfl ?_
  refine lq (q_lss rfl rfl) rfl ?_
  refine WL.nil ?_
  refine WT.cond rfl (fun c3 => ?_) (fun c3 => ?_)
  · replace h := ite_t h c3
    refine WT.seq ?_
    refine WT.region ?_
    refine lq (q_assign rfl) rfl ?_
    refine WL.nil ?_
    refine WT.ret Try.func5 (resOk.one rfl) (fun w1 hw => ?_)
    cases h
    exact post_of_St hw
  replace h := ite_f h c3
  refine WT.skip ?_
  refine WT.seq ?_
  refine WT.region ?_
  refine lq (q_loadN Tn_24 rfl (fun w1 hw => hw.rgO (i := 0) rfl 0 2 [.string p0.Name, pv0_0] rfl) rfl) rfl ?_
  obtain ⟨x4, hx4, h⟩ := bind_some h
  refine lc (k_call (js := []) (R := []) Fun_8 rfl rfl (fun w1 hw ap hl => m_l_toDef_ok hw.fro N p0 ph0_0  hx4)) rfl (fun v1 Φ_1 F1 q1 => ?_)
  obtain ⟨ap1, fr1, v2, D1, rfl, rfl, h1⟩ := q1
  replace ph1 := ph1.frame RTMatch.lasts fr1 (ap1.o pa1)
  replace ph2 := ph2.frame RTMatch.lasts fr1 (ap1.o pa2)
  replace ph0_0 := ph0_0.frame RTRule.lasts fr1 (ap1.o pa0_0)
  refine lq (q_move rfl) rfl ?_
  obtain ⟨x5, hx5, h⟩ := bind_some h
  refine lc (k_call (js := []) (R := [ob v2, D1]) Fun_29 rfl rfl (fun w1 hw ap hl => m_l_toMatchS_ok hw.fro N p1 ph1  hx5)) rfl (fun v3 Φ_2 F2 q2 => ?_)
  obtain ⟨ap2, fr2, v4, D2, rfl, rfl, h2⟩ := q2
  replace ph1 := ph1.frame RTMatch.lasts fr2 (ap2.o pa1)
  replace ph2 := ph2.frame RTMatch.lasts fr2 (ap2.o pa2)
  replace ph0_0 := ph0_0.frame RTRule.lasts fr2 (ap2.o pa0_0)
  replace h1 := h1.frame OTRule.lasts fr2 (ap2.r (i := 0) rfl) (ap2.r (i := 1) rfl)
  refine lq (q_move rfl) rfl ?_
  obtain ⟨x6, hx6, h⟩ := bind_some h
  refine lc (k_call (js := []) (R := [ob v3, D2, ob v2, D1]) Fun_29 rfl rfl (fun w1 hw ap hl => m_l_toMatchS_ok hw.fro N p2 ph2  hx6)) rfl (fun v5 Φ_3 F3 q3 => ?_)
  obtain ⟨ap3, fr3, v6, D3, rfl, rfl, h3⟩ := q3
  replace ph1 := ph1.frame RTMatch.lasts fr3 (ap3.o pa1)
  replace ph2 := ph2.frame RTMatch.lasts fr3 (ap3.o pa2)
  replace ph0_0 := ph0_0.frame RTRule.lasts fr3 (ap3.o pa0_0)
  replace h1 := h1.frame OTRule.lasts fr3 (ap3.r (i := 2) rfl) (ap3.r (i := 3) rfl)
  replace h2 := h2.frame OTMatch.lasts fr3 (ap3.r (i := 0) rfl) (ap3.r (i := 1) rfl)
  obtain ⟨x7, hx7, h⟩ := bind_some h
  refine lc (k_call (js := []) (R := [ob v5, D3, ob v3, D2, ob v2, D1]) Fun_28 rfl rfl (fun w1 hw ap hl => m_s_PickMatch_ok hw.fro N x4 x5 x6 (h1.rslG OTRule.gives) (h2.rslG OTMatch.gives) (h3.rslG OTMatch.gives)  hx7)) rfl (fun v7 Φ_4 F4 q4 => ?_)
  obtain ⟨ap4, fr4, v8, v9, rfl, rfl, h4, h5⟩ := q4
  replace ph1 := ph1.frame RTMatch.lasts fr4 (ap4.o pa1)
  replace ph2 := ph2.frame RTMatch.lasts fr4 (ap4.o pa2)
  replace ph0_0 := ph0_0.frame RTRule.lasts fr4 (ap4.o pa0_0)
  refine lq (q_move rfl) rfl ?_
  refine lq (q_extract rfl rfl) rfl ?_
  refine lq (q_extract rfl rfl) rfl ?_
  refine ln (n_alloc (C := #[.int .i64 0, .slice none 0 0, .slice none 0 0]) Zr_70 rfl) rfl (fun b_2 => ?_)
  refine ls (s_store (i := 0) (vs := [.int .i64 x7.1.Rule, v8, v9]) (C' := [.int .i64 x7.1.Rule, v8, v9]) (O' := [(b_2, .cells #[.int .i64 x7.1.Rule, v8, v9] 70 (0, 0)), (b_1, .cells #[.string p0.Name, pv0_0] 24 (0, 0))]) Sz_70 rfl rfl rfl rfl rfl rfl ⟨rfl, h4.one, h5.one, trivial⟩ rfl rfl) rfl ?_
  refine lq (q_assign rfl) rfl ?_
  refine WL.nil ?_
  refine WT.seq ?_
  refine WT.region ?_
  refine lq (q_loadN Tn_24 rfl (fun w1 hw => hw.rgO (i := 1) rfl 0 2 [.string p0.Name, pv0_0] rfl) rfl) rfl ?_
  obtain ⟨x8, hx8, h⟩ := bind_some h
  refine lc (k_call (js := []) (R := [ob v8, ob v9, ob v5, D3, ob v3, D2, ob v2, D1]) Fun_8 rfl rfl (fun w1 hw ap hl => m_l_toDef_ok hw.fro N p0 ph0_0  hx8)) rfl (fun v10 Φ_5 F5 q5 => ?_)
  obtain ⟨ap5, fr5, v11, D4, rfl, rfl, h6⟩ := q5
  replace ph1 := ph1.frame RTMatch.lasts fr5 (ap5.o pa1)
  replace ph2 := ph2.frame RTMatch.lasts fr5 (ap5.o pa2)
  replace ph0_0 := ph0_0.frame RTRule.lasts fr5 (ap5.o pa0_0)
  replace h4 := h4.frame RI.lasts fr5 (ap5.r (i := 0) rfl) (Dj.nil _)
  replace h5 := h5.frame RTBind.lasts fr5 (ap5.r (i := 1) rfl) (Dj.nil _)
  refine ln (n_alloc (C := #[.string (⟨#[]⟩ : ByteArray), .slice none 0 0]) Zr_29 rfl) rfl (fun b_3 => ?_)
  refine ls (s_store (i := 0) (vs := [.string x8.Name, v11]) (C' := [.string x8.Name, v11]) (O' := [(b_3, .cells #[.string x8.Name, v11] 29 (0, 0)), (b_2, .cells #[.int .i64 x7.1.Rule, v8, v9] 70 (0, 0)), (b_1, .cells #[.string p0.Name, pv0_0] 24 (0, 0))]) Sz_29 rfl rfl rfl rfl rfl rfl ⟨rfl, h6.one, trivial⟩ rfl rfl) rfl ?_
  refine WL.nil ?_
  refine WT.seq ?_
  refine WT.region ?_
  refine lq (q_move rfl) rfl ?_
  obtain ⟨x9, hx9, h⟩ := bind_some h
  refine lc (k_call (js := []) (R := [ob v11, D4, ob v8, ob v9, ob v5, D3, ob v3, D2, ob v2, D1]) Fun_29 rfl rfl (fun w1 hw ap hl => m_l_toMatchS_ok hw.fro N p1 ph1  hx9)) rfl (fun v12 Φ_6 F6 q6 => ?_)
  obtain ⟨ap6, fr6, v13, D5, rfl, rfl, h7⟩ := q6
  replace ph1 := ph1.frame RTMatch.lasts fr6 (ap6.o pa1)
  replace ph2 := ph2.frame RTMatch.lasts fr6 (ap6.o pa2)
  replace ph0_0 := ph0_0.frame RTRule.lasts fr6 (ap6.o pa0_0)
  replace h4 := h4.frame RI.lasts fr6 (ap6.r (i := 2) rfl) (Dj.nil _)
  replace h5 := h5.frame RTBind.lasts fr6 (ap6.r (i := 3) rfl) (Dj.nil _)
  replace h6 := h6.frame OTRule.lasts fr6 (ap6.r (i := 0) rfl) (ap6.r (i := 1) rfl)
  refine lq (q_assign rfl) rfl ?_
  refine WL.nil ?_
  refine WT.seq ?_
  refine WT.region ?_
  refine lq (q_move rfl) rfl ?_
  obtain ⟨x10, hx10, h⟩ := bind_some h
  refine lc (k_call (js := []) (R := [ob v12, D5, ob v11, D4, ob v8, ob v9, ob v5, D3, ob v3, D2, ob v2, D1]) Fun_29 rfl rfl (fun w1 hw ap hl => m_l_toMatchS_ok hw.fro N p2 ph2  hx10)) rfl (fun v14 Φ_7 F7 q7 => ?_)
  obtain ⟨ap7, fr7, v15, D6, rfl, rfl, h8⟩ := q7
  replace ph1 := ph1.frame RTMatch.lasts fr7 (ap7.o pa1)
  replace ph2 := ph2.frame RTMatch.lasts fr7 (ap7.o pa2)
  replace ph0_0 := ph0_0.frame RTRule.lasts fr7 (ap7.o pa0_0)
  replace h4 := h4.frame RI.lasts fr7 (ap7.r (i := 4) rfl) (Dj.nil _)
  replace h5 := h5.frame RTBind.lasts fr7 (ap7.r (i := 5) rfl) (Dj.nil _)
  replace h6 := h6.frame OTRule.lasts fr7 (ap7.r (i := 2) rfl) (ap7.r (i := 3) rfl)
  replace h7 := h7.frame OTMatch.lasts fr7 (ap7.r (i := 0) rfl) (ap7.r (i := 1) rfl)
  refine lq (q_assign rfl) rfl ?_
  refine WL.nil ?_
  refine WT.seq ?_
  refine WT.region ?_
  refine lq (q_loadN Tn_29 rfl (fun w1 hw => hw.rgO (i := 0) rfl 0 2 [.string x8.Name, v11] rfl) rfl) rfl ?_
  refine lq (q_move rfl) rfl ?_
  refine lq (q_move rfl) rfl ?_
  obtain ⟨x11, hx11, h⟩ := bind_some h
  refine lc (k_call (js := []) (R := [ob v14, D6, ob v12, D5, ob v11, D4, ob v8, ob v9, ob v5, D3, ob v3, D2, ob v2, D1]) Fun_30 rfl rfl (fun w1 hw ap hl => m_i_PickMatch_ok hw.fro N x8 x9 x10 (h6.rslG OTRule.gives) (h7.rslG OTMatch.gives) (h8.rslG OTMatch.gives)  hx11)) rfl (fun v16 Φ_8 F8 q8 => ?_)
  obtain ⟨ap8, fr8, v17, v18, rfl, rfl, h9, h10⟩ := q8
  replace ph1 := ph1.frame RTMatch.lasts fr8 (ap8.o pa1)
  replace ph2 := ph2.frame RTMatch.lasts fr8 (ap8.o pa2)
  replace ph0_0 := ph0_0.frame RTRule.lasts fr8 (ap8.o pa0_0)
  replace h4 := h4.frame RI.lasts fr8 (ap8.r (i := 6) rfl) (Dj.nil _)
  replace h5 := h5.frame RTBind.lasts fr8 (ap8.r (i := 7) rfl) (Dj.nil _)
  replace h6 := h6.frame OTRule.lasts fr8 (ap8.r (i := 4) rfl) (ap8.r (i := 5) rfl)
  replace h7 := h7.frame OTMatch.lasts fr8 (ap8.r (i := 2) rfl) (ap8.r (i := 3) rfl)
  replace h8 := h8.frame OTMatch.lasts fr8 (ap8.r (i := 0) rfl) (ap8.r (i := 1) rfl)
  refine lq (q_move rfl) rfl ?_
  refine lq (q_extract rfl rfl) rfl ?_
  refine lq (q_extract rfl rfl) rfl ?_
  refine ln (n_alloc (C := #[.int .i64 0, .slice none 0 0, .slice none 0 0]) Zr_70 rfl) rfl (fun b_4 => ?_)
  refine ls (s_store (i := 0) (vs := [.int .i64 x11.1.Rule, v17, v18]) (C' := [.int .i64 x11.1.Rule, v17, v18]) (O' := [(b_4, .cells #[.int .i64 x11.1.Rule, v17, v18] 70 (0, 0)), (b_3, .cells #[.string x8.Name, v11] 29 (0, 0)), (b_2, .cells #[.int .i64 x7.1.Rule, v8, v9] 70 (0, 0)), (b_1, .cells #[.string p0.Name, pv0_0] 24 (0, 0))]) Sz_70 rfl rfl rfl rfl rfl rfl ⟨rfl, h9.one, h10.one, trivial⟩ rfl rfl) rfl ?_
  refine lq (q_assign rfl) rfl ?_
  refine WL.nil ?_
  refine WT.seq ?_
  refine WT.seq ?_
  refine WT.region ?_
  refine lq (q_loadN Tn_70 rfl (fun w1 hw => hw.rgO (i := 0) rfl 0 3 [.int .i64 x11.1.Rule, v17, v18] rfl) rfl) rfl ?_
  refine lq (q_loadN Tn_70 rfl (fun w1 hw => hw.rgO (i := 2) rfl 0 3 [.int .i64 x7.1.Rule, v8, v9] rfl) rfl) rfl ?_
  obtain ⟨x12, hx12, h⟩ := bind_some h
  refine lp (p_call Fun_31 rfl (fun w1 hw => m_l_eqMatch_ok hw.fro N x11.1 x7.1 h9.rsl h10.rsl h4.rsl h5.rsl hx12)) rfl ?_
  refine lq (q_not rfl) rfl ?_
  refine lq (q_move rfl) rfl ?_
  obtain ⟨b1, hb_1, h⟩ := bind_some h
  refine WL.cutN 4 [(66, .bool b1), (1, pv1), (2, pv2), (3, .pointer (some ⟨b_1, 0, none⟩)), (8, .pointer (some ⟨b_2, 0, none⟩)), (9, .bool x7.2), (10, .pointer (some ⟨b_3, 0, none⟩)), (11, v12), (12, v14), (13, .pointer (some ⟨b_4, 0, none⟩)), (14, .bool x11.2)] ?_ (fun K => ?_)
  rotate_left
  · refine WL.split (d := 62) rfl (fun c4 => ?_) (fun c4 => ?_)
    · replace hb_1 := ite_t hb_1 c4
      refine WL.no rfl rfl rfl rfl ?_
      refine WL.no rfl rfl rfl rfl ?_
      refine WL.no rfl rfl rfl rfl ?_
      refine WL.q (q_pick1 rfl rfl) rfl rfl rfl ?_
      cases hb_1
      exact WL.keep (by exact ⟨rfl, rfl, rfl, rfl, rfl, rfl, rfl, rfl, rfl, rfl, rfl, trivial⟩) K
    · replace hb_1 := ite_f hb_1 c4
      refine WL.yes rfl rfl ?_
      refine lq (q_move rfl) rfl ?_
      refine WL.yes rfl rfl ?_
      refine lq (q_move rfl) rfl ?_
      refine WL.yes rfl rfl ?_
      refine lq (q_bne Bo_4 rfl rfl) rfl ?_
      refine WL.q (q_pick0 rfl rfl) rfl rfl rfl ?_
      cases hb_1
      exact WL.keep (by exact ⟨rfl, rfl, rfl, rfl, rfl, rfl, rfl, rfl, rfl, rfl, rfl, trivial⟩) K
  refine WL.nil ?_
  refine WT.cond rfl (fun c5 => ?_) (fun c5 => ?_)
  · replace h := ite_t h c5
    refine WT.seq ?_
    refine WT.region ?_
    refine lq (q_assign rfl) rfl ?_
    refine WL.nil ?_
    refine WT.ret Try.func5 (resOk.one rfl) (fun w1 hw => ?_)
    cases h
    exact post_of_St hw
  replace h := ite_f h c5
  refine WT.skip ?_
  refine WT.seq ?_
  refine WT.seq ?_
  refine WT.mix (Kn Φ_8 [] [(b_4, .cells #[.int .i64 x11.1.Rule, v17, v18] 70 (0, 0)), (b_3, .cells #[.string x8.Name, v11] 29 (0, 0)), (b_2, .cells #[.int .i64 x7.1.Rule, v8, v9] 70 (0, 0)), (b_1, .cells #[.string p0.Name, pv0_0] 24 (0, 0))]) (fun _ => true) mixed (fun _ h => h.drew) ?_
  refine mq 0 rfl (by kernel_rfl) (fun w1 hw => Kn.of (fun k hk _ _ => by simp at hk) (AllIn.mem ⟨List.mem_of_getElem? (i := 0) rfl, List.mem_of_getElem? (i := 1) rfl, List.mem_of_getElem? (i := 2) rfl, List.mem_of_getElem? (i := 3) rfl, trivial⟩) hw) (q_loadN Tn_29 rfl (fun w1 hw => hw.rgO (i := 1) rfl 0 2 [.string x8.Name, v11] rfl) rfl) rfl ?_
  refine mq 1 rfl (by kernel_rfl) (fun w1 hw => Kn.of (fun k hk _ _ => by simp at hk) (AllIn.mem ⟨List.mem_of_getElem? (i := 0) rfl, List.mem_of_getElem? (i := 1) rfl, List.mem_of_getElem? (i := 2) rfl, List.mem_of_getElem? (i := 3) rfl, trivial⟩) hw) (q_loadN Tn_24 rfl (fun w1 hw => hw.rgO (i := 3) rfl 0 2 [.string p0.Name, pv0_0] rfl) rfl) rfl ?_
  obtain ⟨x13, hx13, h⟩ := bind_some h
  refine WM.one 2 (by kernel_rfl) (mc rfl (fun _ v Φx D w1 hq hw => Kn.of (fun k hk _ _ => by simp at hk) (AllIn.mem ⟨List.mem_of_getElem? (i := 0) rfl, List.mem_of_getElem? (i := 1) rfl, List.mem_of_getElem? (i := 2) rfl, List.mem_of_getElem? (i := 3) rfl, trivial⟩) hw) (k_call (js := []) (R := [ob v17, ob v18, ob v14, D6, ob v12, D5, ob v11, D4, ob v8, ob v9, ob v5, D3, ob v3, D2, ob v2, D1]) Fun_8 rfl rfl (fun w1 hw ap hl => m_l_toDef_ok hw.fro N p0 ph0_0  hx13)) rfl (fun v19 Φ_9 F9 q9 => ?_))
  obtain ⟨ap9, fr9, v20, D7, rfl, rfl, h11⟩ := q9
  replace ph1 := ph1.frame RTMatch.lasts fr9 (ap9.o pa1)
  replace ph2 := ph2.frame RTMatch.lasts fr9 (ap9.o pa2)
  replace ph0_0 := ph0_0.frame RTRule.lasts fr9 (ap9.o pa0_0)
  replace h10 := h10.frame RTBind.lasts fr9 (ap9.r (i := 1) rfl) (Dj.nil _)
  replace h4 := h4.frame RI.lasts fr9 (ap9.r (i := 8) rfl) (Dj.nil _)
  replace h5 := h5.frame RTBind.lasts fr9 (ap9.r (i := 9) rfl) (Dj.nil _)
  replace h6 := h6.frame OTRule.lasts fr9 (ap9.r (i := 6) rfl) (ap9.r (i := 7) rfl)
  replace h7 := h7.frame OTMatch.lasts fr9 (ap9.r (i := 4) rfl) (ap9.r (i := 5) rfl)
  replace h8 := h8.frame OTMatch.lasts fr9 (ap9.r (i := 2) rfl) (ap9.r (i := 3) rfl)
  replace h9 := h9.frame RI.lasts fr9 (ap9.r (i := 0) rfl) (Dj.nil _)
  obtain ⟨x14, hx14, h⟩ := bind_some h
  refine WM.one 3 (by kernel_rfl) (mp rfl (fun _ w1 hw => Kn.of (fun k hk _ _ => by simp at hk) (AllIn.mem ⟨List.mem_of_getElem? (i := 0) rfl, List.mem_of_getElem? (i := 1) rfl, List.mem_of_getElem? (i := 2) rfl, List.mem_of_getElem? (i := 3) rfl, trivial⟩) hw) (p_call Fun_10 rfl (fun w1 hw => m_l_eqDef_ok hw.fro N x8 x13 (h6.rslG OTRule.gives) (h11.rslG OTRule.gives) hx14)) rfl ?_)
  refine mq 4 rfl (by kernel_rfl) (fun w1 hw => Kn.of (fun k hk _ _ => by simp at hk) (AllIn.mem ⟨List.mem_of_getElem? (i := 0) rfl, List.mem_of_getElem? (i := 1) rfl, List.mem_of_getElem? (i := 2) rfl, List.mem_of_getElem? (i := 3) rfl, trivial⟩) hw) (q_not rfl) rfl ?_
  refine WM.nil (by kernel_rfl) ?_
  refine WT.cond rfl (fun c6 => ?_) (fun c6 => ?_)
  · replace h := ite_t h c6
    refine WT.seq ?_
    refine WT.region ?_
    refine lq (q_assign rfl) rfl ?_
    refine WL.nil ?_
    refine WT.ret Try.func5 (resOk.one rfl) (fun w1 hw => ?_)
    cases h
    exact post_of_St hw
  replace h := ite_f h c6
  refine WT.skip ?_
  refine WT.seq ?_
  refine WT.seq ?_
  refine WT.region ?_
  refine lq (q_move rfl) rfl ?_
  refine lq (q_move rfl) rfl ?_
  obtain ⟨x15, hx15, h⟩ := bind_some h
  refine lc (k_call (js := []) (R := [ob v20, D7, ob v17, ob v18, ob v14, D6, ob v12, D5, ob v11, D4, ob v8, ob v9, ob v5, D3, ob v3, D2, ob v2, D1]) Fun_29 rfl rfl (fun w1 hw ap hl => m_l_toMatchS_ok hw.fro N p1 ph1  hx15)) rfl (fun v21 Φ_10 F10 q10 => ?_)
  obtain ⟨ap10, fr10, v22, D8, rfl, rfl, h12⟩ := q10
  replace ph1 := ph1.frame RTMatch.lasts fr10 (ap10.o pa1)
  replace ph2 := ph2.frame RTMatch.lasts fr10 (ap10.o pa2)
  replace ph0_0 := ph0_0.frame RTRule.lasts fr10 (ap10.o pa0_0)
  replace h10 := h10.frame RTBind.lasts fr10 (ap10.r (i := 3) rfl) (Dj.nil _)
  replace h4 := h4.frame RI.lasts fr10 (ap10.r (i := 10) rfl) (Dj.nil _)
  replace h5 := h5.frame RTBind.lasts fr10 (ap10.r (i := 11) rfl) (Dj.nil _)
  replace h6 := h6.frame OTRule.lasts fr10 (ap10.r (i := 8) rfl) (ap10.r (i := 9) rfl)
  replace h7 := h7.frame OTMatch.lasts fr10 (ap10.r (i := 6) rfl) (ap10.r (i := 7) rfl)
  replace h8 := h8.frame OTMatch.lasts fr10 (ap10.r (i := 4) rfl) (ap10.r (i := 5) rfl)
  replace h9 := h9.frame RI.lasts fr10 (ap10.r (i := 2) rfl) (Dj.nil _)
  obtain ⟨x16, hx16, h⟩ := bind_some h
  refine lp (p_call Fun_32 rfl (fun w1 hw => m_l_eqMatchS_ok hw.fro N x9 x15 (h7.rslG OTMatch.gives) (h12.rslG OTMatch.gives) hx16)) rfl ?_
  refine lq (q_not rfl) rfl ?_
  refine WL.nil ?_
  refine WT.cond rfl (fun c7 => ?_) (fun c7 => ?_)
  · replace h := ite_t h c7
    refine WT.seq ?_
    refine WT.region ?_
    refine lq (q_assign rfl) rfl ?_
    refine WL.nil ?_
    refine WT.ret Try.func5 (resOk.one rfl) (fun w1 hw => ?_)
    cases h
    exact post_of_St hw
  replace h := ite_f h c7
  refine WT.skip ?_
  refine WT.seq ?_
  refine WT.seq ?_
  refine WT.region ?_
  refine lq (q_move rfl) rfl ?_
  refine lq (q_move rfl) rfl ?_
  obtain ⟨x17, hx17, h⟩ := bind_some h
  refine lc (k_call (js := []) (R := [ob v21, D8, ob v20, D7, ob v17, ob v18, ob v14, D6, ob v12, D5, ob v11, D4, ob v8, ob v9, ob v5, D3, ob v3, D2, ob v2, D1]) Fun_29 rfl rfl (fun w1 hw ap hl => m_l_toMatchS_ok hw.fro N p2 ph2  hx17)) rfl (fun v23 Φ_11 F11 q11 => ?_)
  obtain ⟨ap11, fr11, v24, D9, rfl, rfl, h13⟩ := q11
  replace ph1 := ph1.frame RTMatch.lasts fr11 (ap11.o pa1)
  replace ph2 := ph2.frame RTMatch.lasts fr11 (ap11.o pa2)
  replace ph0_0 := ph0_0.frame RTRule.lasts fr11 (ap11.o pa0_0)
  replace h10 := h10.frame RTBind.lasts fr11 (ap11.r (i := 5) rfl) (Dj.nil _)
  replace h4 := h4.frame RI.lasts fr11 (ap11.r (i := 12) rfl) (Dj.nil _)
  replace h5 := h5.frame RTBind.lasts fr11 (ap11.r (i := 13) rfl) (Dj.nil _)
  replace h6 := h6.frame OTRule.lasts fr11 (ap11.r (i := 10) rfl) (ap11.r (i := 11) rfl)
  replace h7 := h7.frame OTMatch.lasts fr11 (ap11.r (i := 8) rfl) (ap11.r (i := 9) rfl)
  replace h8 := h8.frame OTMatch.lasts fr11 (ap11.r (i := 6) rfl) (ap11.r (i := 7) rfl)
  replace h9 := h9.frame RI.lasts fr11 (ap11.r (i := 4) rfl) (Dj.nil _)
  obtain ⟨x18, hx18, h⟩ := bind_some h
  refine lp (p_call Fun_32 rfl (fun w1 hw => m_l_eqMatchS_ok hw.fro N x10 x17 (h8.rslG OTMatch.gives) (h13.rslG OTMatch.gives) hx18)) rfl ?_
  refine lq (q_not rfl) rfl ?_
  refine WL.nil ?_
  refine WT.cond rfl (fun c8 => ?_) (fun c8 => ?_)
  · replace h := ite_t h c8
    refine WT.seq ?_
    refine WT.region ?_
    refine lq (q_assign rfl) rfl ?_
    refine WL.nil ?_
    refine WT.ret Try.func5 (resOk.one rfl) (fun w1 hw => ?_)
    cases h
    exact post_of_St hw
  replace h := ite_f h c8
  refine WT.skip ?_
  refine WT.seq ?_
  refine WT.region ?_
  refine lq (q_assign rfl) rfl ?_
  refine WL.nil ?_
  refine WT.seq ?_
  refine WT.region ?_
  refine lq (q_loadN Tn_29 rfl (fun w1 hw => hw.rgO (i := 1) rfl 0 2 [.string x8.Name, v11] rfl) rfl) rfl ?_
  refine lq (q_move rfl) rfl ?_
  obtain ⟨x19, hx19, h⟩ := bind_some h
  refine lc (k_call (js := [12, 12]) (R := [ob v23, D9, ob v21, D8, ob v20, D7, ob v17, ob v18, ob v14, D6, ob v12, D5, ob v8, ob v9, ob v5, D3, ob v3, D2, ob v2, D1]) Fun_33 rfl rfl (fun w1 hw ap hl => m_l_markDef_ok hw.fro N x8 1 h6 ap.nd hl hx19)) rfl (fun v25 Φ_12 F12 q12 => ?_)
  obtain ⟨ap12, fr12, D10, rfl, rfl, h14⟩ := q12
  replace ph1 := ph1.frame RTMatch.lasts fr12 (ap12.o pa1)
  replace ph2 := ph2.frame RTMatch.lasts fr12 (ap12.o pa2)
  replace ph0_0 := ph0_0.frame RTRule.lasts fr12 (ap12.o pa0_0)
  replace h10 := h10.frame RTBind.lasts fr12 (ap12.r (i := 7) rfl) (Dj.nil _)
  replace h4 := h4.frame RI.lasts fr12 (ap12.r (i := 12) rfl) (Dj.nil _)
  replace h5 := h5.frame RTBind.lasts fr12 (ap12.r (i := 13) rfl) (Dj.nil _)
  replace h7 := h7.frame OTMatch.lasts fr12 (ap12.r (i := 10) rfl) (ap12.r (i := 11) rfl)
  replace h8 := h8.frame OTMatch.lasts fr12 (ap12.r (i := 8) rfl) (ap12.r (i := 9) rfl)
  replace h9 := h9.frame RI.lasts fr12 (ap12.r (i := 6) rfl) (Dj.nil _)
  refine lq (q_assign rfl) rfl ?_
  refine WL.nil ?_
  refine WT.seq ?_
  refine WT.region ?_
  refine lq (q_move rfl) rfl ?_
  refine lq (q_move rfl) rfl ?_
  obtain ⟨x20, hx20, h⟩ := bind_some h
  refine lc (k_call (js := [12, 12]) (R := [ob v11, D10, ob v23, D9, ob v21, D8, ob v20, D7, ob v17, ob v18, ob v14, D6, ob v8, ob v9, ob v5, D3, ob v3, D2, ob v2, D1]) Fun_34 rfl rfl (fun w1 hw ap hl => m_l_markMatchS_ok hw.fro N x9 x19.1 h7 ap.nd hl hx20)) rfl (fun v26 Φ_13 F13 q13 => ?_)
  obtain ⟨ap13, fr13, D11, rfl, rfl, h15⟩ := q13
  replace ph1 := ph1.frame RTMatch.lasts fr13 (ap13.o pa1)
  replace ph2 := ph2.frame RTMatch.lasts fr13 (ap13.o pa2)
  replace ph0_0 := ph0_0.frame RTRule.lasts fr13 (ap13.o pa0_0)
  replace h10 := h10.frame RTBind.lasts fr13 (ap13.r (i := 9) rfl) (Dj.nil _)
  replace h4 := h4.frame RI.lasts fr13 (ap13.r (i := 12) rfl) (Dj.nil _)
  replace h5 := h5.frame RTBind.lasts fr13 (ap13.r (i := 13) rfl) (Dj.nil _)
  replace h8 := h8.frame OTMatch.lasts fr13 (ap13.r (i := 10) rfl) (ap13.r (i := 11) rfl)
  replace h9 := h9.frame RI.lasts fr13 (ap13.r (i := 8) rfl) (Dj.nil _)
  refine lq (q_assign rfl) rfl ?_
  refine WL.nil ?_
  refine WT.seq ?_
  refine WT.region ?_
  refine lq (q_move rfl) rfl ?_
  refine lq (q_move rfl) rfl ?_
  obtain ⟨x21, hx21, h⟩ := bind_some h
  refine lc (k_call (js := [12, 12]) (R := [ob v12, D11, ob v11, D10, ob v23, D9, ob v21, D8, ob v20, D7, ob v17, ob v18, ob v8, ob v9, ob v5, D3, ob v3, D2, ob v2, D1]) Fun_34 rfl rfl (fun w1 hw ap hl => m_l_markMatchS_ok hw.fro N x10 x20.1 h8 ap.nd hl hx21)) rfl (fun v27 Φ_14 F14 q14 => ?_)
  obtain ⟨ap14, fr14, D12, rfl, rfl, h16⟩ := q14
  replace ph1 := ph1.frame RTMatch.lasts fr14 (ap14.o pa1)
  replace ph2 := ph2.frame RTMatch.lasts fr14 (ap14.o pa2)
  replace ph0_0 := ph0_0.frame RTRule.lasts fr14 (ap14.o pa0_0)
  replace h10 := h10.frame RTBind.lasts fr14 (ap14.r (i := 11) rfl) (Dj.nil _)
  replace h4 := h4.frame RI.lasts fr14 (ap14.r (i := 12) rfl) (Dj.nil _)
  replace h5 := h5.frame RTBind.lasts fr14 (ap14.r (i := 13) rfl) (Dj.nil _)
  replace h9 := h9.frame RI.lasts fr14 (ap14.r (i := 10) rfl) (Dj.nil _)
  refine lq (q_assign rfl) rfl ?_
  refine WL.nil ?_
  refine WT.seq ?_
  refine WT.seq ?_
  refine WT.region ?_
  refine lq (q_move rfl) rfl ?_
  refine lq (q_lss rfl rfl) rfl ?_
  refine lq (q_move rfl) rfl ?_
  obtain ⟨b2, hb_2, h⟩ := bind_some h
  refine WL.cutN 5 [(98, .bool b2), (1, pv1), (2, pv2), (3, .pointer (some ⟨b_1, 0, none⟩)), (8, .pointer (some ⟨b_2, 0, none⟩)), (9, .bool x7.2), (13, .pointer (some ⟨b_4, 0, none⟩)), (14, .bool x11.2)] ?_ (fun K => ?_)
  rotate_left
  · refine WL.split (d := 93) rfl (fun c9 => ?_) (fun c9 => ?_)
    · replace hb_2 := ite_t hb_2 c9
      refine WL.no rfl rfl rfl rfl ?_
      refine WL.no rfl rfl rfl rfl ?_
      refine WL.no rfl rfl rfl rfl ?_
      refine WL.no rfl rfl rfl rfl ?_
      refine WL.q (q_pick1 rfl rfl) rfl rfl rfl ?_
      cases hb_2
      exact WL.keep (by exact ⟨rfl, rfl, rfl, rfl, rfl, rfl, rfl, rfl, trivial⟩) K
    · replace hb_2 := ite_f hb_2 c9
      refine WL.yes rfl rfl ?_
      refine lq (q_loadN Tn_70 rfl (fun w1 hw => hw.rgO (i := 0) rfl 0 3 [.int .i64 x11.1.Rule, v17, v18] rfl) rfl) rfl ?_
      refine WL.yes rfl rfl ?_
      refine lq (q_loadN Tn_70 rfl (fun w1 hw => hw.rgO (i := 2) rfl 0 3 [.int .i64 x7.1.Rule, v8, v9] rfl) rfl) rfl ?_
      refine WL.yes rfl rfl ?_
      obtain ⟨x22, hx22, hb_2⟩ := bind_some hb_2
      refine lp (p_call Fun_31 rfl (fun w1 hw => m_l_eqMatch_ok hw.fro N x11.1 x7.1 h9.rsl h10.rsl h4.rsl h5.rsl hx22)) rfl ?_
      refine WL.yes rfl rfl ?_
      refine lq (q_not rfl) rfl ?_
      refine WL.q (q_pick0 rfl rfl) rfl rfl rfl ?_
      cases hb_2
      exact WL.keep (by exact ⟨rfl, rfl, rfl, rfl, rfl, rfl, rfl, rfl, trivial⟩) K
  refine lq (q_move rfl) rfl ?_
  obtain ⟨b3, hb_3, h⟩ := bind_some h
  refine WL.cutN 4 [(103, .bool b3), (1, pv1), (2, pv2), (3, .pointer (some ⟨b_1, 0, none⟩)), (8, .pointer (some ⟨b_2, 0, none⟩)), (9, .bool x7.2), (13, .pointer (some ⟨b_4, 0, none⟩))] ?_ (fun K => ?_)
  rotate_left
  · refine WL.split (d := 99) rfl (fun c10 => ?_) (fun c10 => ?_)
    · replace hb_3 := ite_t hb_3 c10
      refine WL.no rfl rfl rfl rfl ?_
      refine WL.no rfl rfl rfl rfl ?_
      refine WL.no rfl rfl rfl rfl ?_
      refine WL.q (q_pick1 rfl rfl) rfl rfl rfl ?_
      cases hb_3
      exact WL.keep (by exact ⟨rfl, rfl, rfl, rfl, rfl, rfl, rfl, trivial⟩) K
    · replace hb_3 := ite_f hb_3 c10
      refine WL.yes rfl rfl ?_
      refine lq (q_move rfl) rfl ?_
      refine WL.yes rfl rfl ?_
      refine lq (q_move rfl) rfl ?_
      refine WL.yes rfl rfl ?_
      refine lq (q_bne Bo_4 rfl rfl) rfl ?_
      refine WL.q (q_pick0 rfl rfl) rfl rfl rfl ?_
      cases hb_3
      exact WL.keep (by exact ⟨rfl, rfl, rfl, rfl, rfl, rfl, rfl, trivial⟩) K
  refine WL.nil ?_
  refine WT.cond rfl (fun c11 => ?_) (fun c11 => ?_)
  · replace h := ite_t h c11
    refine WT.seq ?_
    refine WT.region ?_
    refine lq (q_assign rfl) rfl ?_
    refine WL.nil ?_
    refine WT.ret Try.func5 (resOk.one rfl) (fun w1 hw => ?_)
    cases h
    exact post_of_St hw
  replace h := ite_f h c11
  refine WT.skip ?_
  refine WT.seq ?_
  refine WT.region ?_
  refine lq (q_assign rfl) rfl ?_
  refine WL.nil ?_
  refine WT.seq ?_
  refine WT.region ?_
  refine lq (q_loadN Tn_70 rfl (fun w1 hw => hw.rgO (i := 0) rfl 0 3 [.int .i64 x11.1.Rule, v17, v18] rfl) rfl) rfl ?_
  refine lq (q_move rfl) rfl ?_
  obtain ⟨x23, hx23, h⟩ := bind_some h
  refine lc (k_call (js := [12, 12]) (R := [ob v14, D12, ob v12, D11, ob v11, D10, ob v23, D9, ob v21, D8, ob v20, D7, ob v8, ob v9, ob v5, D3, ob v3, D2, ob v2, D1]) Fun_35 rfl rfl (fun w1 hw ap hl => m_l_markMatch_ok hw.fro N x11.1 1 h9 h10 ap.nd hl hx23)) rfl (fun v28 Φ_15 F15 q15 => ?_)
  obtain ⟨ap15, fr15, rfl, rfl, h17, h18⟩ := q15
  replace ph1 := ph1.frame RTMatch.lasts fr15 (ap15.o pa1)
  replace ph2 := ph2.frame RTMatch.lasts fr15 (ap15.o pa2)
  replace ph0_0 := ph0_0.frame RTRule.lasts fr15 (ap15.o pa0_0)
  replace h4 := h4.frame RI.lasts fr15 (ap15.r (i := 12) rfl) (Dj.nil _)
  replace h5 := h5.frame RTBind.lasts fr15 (ap15.r (i := 13) rfl) (Dj.nil _)
  refine lq (q_assign rfl) rfl ?_
  refine WL.nil ?_
  refine WT.seq ?_
  refine WT.region ?_
  refine lq (q_assign rfl) rfl ?_
  refine WL.nil ?_
  refine WT.seq ?_
  refine WT.region ?_
  refine lq (q_loadN Tn_70 rfl (fun w1 hw => hw.rgO (i := 0) rfl 0 3 [.int .i64 x11.1.Rule, v17, v18] rfl) rfl) rfl ?_
  refine lq (q_move rfl) rfl ?_
  obtain ⟨x24, hx24, h⟩ := bind_some h
  refine lp (p_call Fun_36 rfl (fun w1 hw => m_l_heldMatch_ok hw.fro N (⟨x11.1.Rule, x23.2.1, x23.2.2⟩ : TMatch) 1 h17.rsl h18.rsl hx24)) rfl ?_
  refine lq (q_assign rfl) rfl ?_
  refine WL.nil ?_
  refine WT.seq ?_
  refine WT.seq ?_
  refine WT.region ?_
  refine lq (q_move rfl) rfl ?_
  refine lq (q_lss rfl rfl) rfl ?_
  refine WL.nil ?_
  refine WT.cond rfl (fun c12 => ?_) (fun c12 => ?_)
  · replace h := ite_t h c12
    refine WT.seq ?_
    refine WT.region ?_
    refine lq (q_assign rfl) rfl ?_
    refine WL.nil ?_
    refine WT.ret Try.func5 (resOk.one rfl) (fun w1 hw => ?_)
    cases h
    exact post_of_St hw
  replace h := ite_f h c12
  refine WT.skip ?_
  refine WT.seq ?_
  refine WT.seq ?_
  refine WT.region ?_
  refine lq (q_move rfl) rfl ?_
  refine lq (q_move rfl) rfl ?_
  refine lq (q_neq rfl rfl) rfl ?_
  refine WL.nil ?_
  refine WT.cond rfl (fun c13 => ?_) (fun c13 => ?_)
  · replace h := ite_t h c13
    refine WT.seq ?_
    refine WT.region ?_
    refine lq (q_assign rfl) rfl ?_
    refine WL.nil ?_
    refine WT.ret Try.func5 (resOk.one rfl) (fun w1 hw => ?_)
    cases h
    exact post_of_St hw
  replace h := ite_f h c13
  refine WT.skip ?_
  refine WT.seq ?_
  refine WT.region ?_
  refine lq (q_loadN Tn_24 rfl (fun w1 hw => hw.rgO (i := 3) rfl 0 2 [.string p0.Name, pv0_0] rfl) rfl) rfl ?_
  obtain ⟨x25, hx25, h⟩ := bind_some h
  refine lc (k_call (js := []) (R := [ob v17, ob v18, ob v14, D12, ob v12, D11, ob v11, D10, ob v23, D9, ob v21, D8, ob v20, D7, ob v8, ob v9, ob v5, D3, ob v3, D2, ob v2, D1]) Fun_8 rfl rfl (fun w1 hw ap hl => m_l_toDef_ok hw.fro N p0 ph0_0  hx25)) rfl (fun v29 Φ_16 F16 q16 => ?_)
  obtain ⟨ap16, fr16, v30, D13, rfl, rfl, h19⟩ := q16
  replace ph1 := ph1.frame RTMatch.lasts fr16 (ap16.o pa1)
  replace ph2 := ph2.frame RTMatch.lasts fr16 (ap16.o pa2)
  replace h18 := h18.frame RTBind.lasts fr16 (ap16.r (i := 1) rfl) (Dj.nil _)
  replace h4 := h4.frame RI.lasts fr16 (ap16.r (i := 14) rfl) (Dj.nil _)
  replace h5 := h5.frame RTBind.lasts fr16 (ap16.r (i := 15) rfl) (Dj.nil _)
  replace h17 := h17.frame RI.lasts fr16 (ap16.r (i := 0) rfl) (Dj.nil _)
  refine lq (q_move rfl) rfl ?_
  obtain ⟨x26, hx26, h⟩ := bind_some h
  refine lc (k_call (js := []) (R := [ob v30, D13, ob v17, ob v18, ob v14, D12, ob v12, D11, ob v11, D10, ob v23, D9, ob v21, D8, ob v20, D7, ob v8, ob v9, ob v5, D3, ob v3, D2, ob v2, D1]) Fun_29 rfl rfl (fun w1 hw ap hl => m_l_toMatchS_ok hw.fro N p1 ph1  hx26)) rfl (fun v31 Φ_17 F17 q17 => ?_)
  obtain ⟨ap17, fr17, v32, D14, rfl, rfl, h20⟩ := q17
  replace ph2 := ph2.frame RTMatch.lasts fr17 (ap17.o pa2)
  replace h18 := h18.frame RTBind.lasts fr17 (ap17.r (i := 3) rfl) (Dj.nil _)
  replace h19 := h19.frame OTRule.lasts fr17 (ap17.r (i := 0) rfl) (ap17.r (i := 1) rfl)
  replace h4 := h4.frame RI.lasts fr17 (ap17.r (i := 16) rfl) (Dj.nil _)
  replace h5 := h5.frame RTBind.lasts fr17 (ap17.r (i := 17) rfl) (Dj.nil _)
  replace h17 := h17.frame RI.lasts fr17 (ap17.r (i := 2) rfl) (Dj.nil _)
  refine lq (q_move rfl) rfl ?_
  obtain ⟨x27, hx27, h⟩ := bind_some h
  refine lc (k_call (js := []) (R := [ob v31, D14, ob v30, D13, ob v17, ob v18, ob v14, D12, ob v12, D11, ob v11, D10, ob v23, D9, ob v21, D8, ob v20, D7, ob v8, ob v9, ob v5, D3, ob v3, D2, ob v2, D1]) Fun_29 rfl rfl (fun w1 hw ap hl => m_l_toMatchS_ok hw.fro N p2 ph2  hx27)) rfl (fun v33 Φ_18 F18 q18 => ?_)
  obtain ⟨ap18, fr18, v34, D15, rfl, rfl, h21⟩ := q18
  replace h18 := h18.frame RTBind.lasts fr18 (ap18.r (i := 5) rfl) (Dj.nil _)
  replace h19 := h19.frame OTRule.lasts fr18 (ap18.r (i := 2) rfl) (ap18.r (i := 3) rfl)
  replace h20 := h20.frame OTMatch.lasts fr18 (ap18.r (i := 0) rfl) (ap18.r (i := 1) rfl)
  replace h4 := h4.frame RI.lasts fr18 (ap18.r (i := 18) rfl) (Dj.nil _)
  replace h5 := h5.frame RTBind.lasts fr18 (ap18.r (i := 19) rfl) (Dj.nil _)
  replace h17 := h17.frame RI.lasts fr18 (ap18.r (i := 4) rfl) (Dj.nil _)
  obtain ⟨x28, hx28, h⟩ := bind_some h
  refine lc (k_call (js := []) (R := [ob v33, D15, ob v31, D14, ob v30, D13, ob v17, ob v18, ob v14, D12, ob v12, D11, ob v11, D10, ob v23, D9, ob v21, D8, ob v20, D7, ob v8, ob v9, ob v5, D3, ob v3, D2, ob v2, D1]) Fun_30 rfl rfl (fun w1 hw ap hl => m_i_PickMatch_ok hw.fro N x25 x26 x27 (h19.rslG OTRule.gives) (h20.rslG OTMatch.gives) (h21.rslG OTMatch.gives)  hx28)) rfl (fun v35 Φ_19 F19 q19 => ?_)
  obtain ⟨ap19, fr19, v36, v37, rfl, rfl, h22, h23⟩ := q19
  replace h18 := h18.frame RTBind.lasts fr19 (ap19.r (i := 7) rfl) (Dj.nil _)
  replace h4 := h4.frame RI.lasts fr19 (ap19.r (i := 20) rfl) (Dj.nil _)
  replace h5 := h5.frame RTBind.lasts fr19 (ap19.r (i := 21) rfl) (Dj.nil _)
  replace h17 := h17.frame RI.lasts fr19 (ap19.r (i := 6) rfl) (Dj.nil _)
  refine lq (q_move rfl) rfl ?_
  refine lq (q_extract rfl rfl) rfl ?_
  refine lq (q_extract rfl rfl) rfl ?_
  refine ln (n_alloc (C := #[.int .i64 0, .slice none 0 0, .slice none 0 0]) Zr_70 rfl) rfl (fun b_5 => ?_)
  refine ls (s_store (i := 0) (vs := [.int .i64 x28.1.Rule, v36, v37]) (C' := [.int .i64 x28.1.Rule, v36, v37]) (O' := [(b_5, .cells #[.int .i64 x28.1.Rule, v36, v37] 70 (0, 0)), (b_4, .cells #[.int .i64 x11.1.Rule, v17, v18] 70 (0, 0)), (b_3, .cells #[.string x8.Name, v11] 29 (0, 0)), (b_2, .cells #[.int .i64 x7.1.Rule, v8, v9] 70 (0, 0)), (b_1, .cells #[.string p0.Name, pv0_0] 24 (0, 0))]) Sz_70 rfl rfl rfl rfl rfl rfl ⟨rfl, h22.one, h23.one, trivial⟩ rfl rfl) rfl ?_
  refine lq (q_assign rfl) rfl ?_
  refine WL.nil ?_
  refine WT.seq ?_
  refine WT.seq ?_
  refine WT.region ?_
  refine lq (q_loadN Tn_70 rfl (fun w1 hw => hw.rgO (i := 0) rfl 0 3 [.int .i64 x28.1.Rule, v36, v37] rfl) rfl) rfl ?_
  refine lq (q_loadN Tn_70 rfl (fun w1 hw => hw.rgO (i := 3) rfl 0 3 [.int .i64 x7.1.Rule, v8, v9] rfl) rfl) rfl ?_
  obtain ⟨x29, hx29, h⟩ := bind_some h
  refine lp (p_call Fun_31 rfl (fun w1 hw => m_l_eqMatch_ok hw.fro N x28.1 x7.1 h22.rsl h23.rsl h4.rsl h5.rsl hx29)) rfl ?_
  refine lq (q_not rfl) rfl ?_
  refine lq (q_move rfl) rfl ?_
  obtain ⟨b4, hb_4, h⟩ := bind_some h
  refine WL.cutN 4 [(133, .bool b4), (13, .pointer (some ⟨b_4, 0, none⟩)), (16, .int .i64 x23.1)] ?_ (fun K => ?_)
  rotate_left
  · refine WL.split (d := 129) rfl (fun c14 => ?_) (fun c14 => ?_)
    · replace hb_4 := ite_t hb_4 c14
      refine WL.no rfl rfl rfl rfl ?_
      refine WL.no rfl rfl rfl rfl ?_
      refine WL.no rfl rfl rfl rfl ?_
      refine WL.q (q_pick1 rfl rfl) rfl rfl rfl ?_
      cases hb_4
      exact WL.keep (by exact ⟨rfl, rfl, rfl, trivial⟩) K
    · replace hb_4 := ite_f hb_4 c14
      refine WL.yes rfl rfl ?_
      refine lq (q_move rfl) rfl ?_
      refine WL.yes rfl rfl ?_
      refine lq (q_move rfl) rfl ?_
      refine WL.yes rfl rfl ?_
      refine lq (q_bne Bo_4 rfl rfl) rfl ?_
      refine WL.q (q_pick0 rfl rfl) rfl rfl rfl ?_
      cases hb_4
      exact WL.keep (by exact ⟨rfl, rfl, rfl, trivial⟩) K
  refine WL.nil ?_
  refine WT.cond rfl (fun c15 => ?_) (fun c15 => ?_)
  · replace h := ite_t h c15
    refine WT.seq ?_
    refine WT.region ?_
    refine lq (q_assign rfl) rfl ?_
    refine WL.nil ?_
    refine WT.ret Try.func5 (resOk.one rfl) (fun w1 hw => ?_)
    cases h
    exact post_of_St hw
  replace h := ite_f h c15
  refine WT.skip ?_
  refine WT.seq ?_
  refine WT.region ?_
  refine lq (q_assign rfl) rfl ?_
  refine WL.nil ?_
  refine WT.seq ?_
  refine WT.region ?_
  refine lq (q_loadN Tn_70 rfl (fun w1 hw => hw.rgO (i := 1) rfl 0 3 [.int .i64 x11.1.Rule, v17, v18] rfl) rfl) rfl ?_
  refine lq (q_move rfl) rfl ?_
  obtain ⟨x30, hx30, h⟩ := bind_some h
  refine lp (p_call Fun_36 rfl (fun w1 hw => m_l_heldMatch_ok hw.fro N (⟨x11.1.Rule, x23.2.1, x23.2.2⟩ : TMatch) 1 h17.rsl h18.rsl hx30)) rfl ?_
  refine lq (q_assign rfl) rfl ?_
  refine WL.nil ?_
  refine WT.seq ?_
  refine WT.seq ?_
  refine WT.region ?_
  refine lq (q_move rfl) rfl ?_
  refine lq (q_lss rfl rfl) rfl ?_
  refine WL.nil ?_
  refine WT.cond rfl (fun c16 => ?_) (fun c16 => ?_)
  · replace h := ite_t h c16
    refine WT.seq ?_
    refine WT.region ?_
    refine lq (q_assign rfl) rfl ?_
    refine WL.nil ?_
    refine WT.ret Try.func5 (resOk.one rfl) (fun w1 hw => ?_)
    cases h
    exact post_of_St hw
  replace h := ite_f h c16
  refine WT.skip ?_
  refine WT.seq ?_
  refine WT.seq ?_
  refine WT.region ?_
  refine lq (q_move rfl) rfl ?_
  refine lq (q_move rfl) rfl ?_
  refine lq (q_neq rfl rfl) rfl ?_
  refine WL.nil ?_
  refine WT.cond rfl (fun c17 => ?_) (fun c17 => ?_)
  · replace h := ite_t h c17
    refine WT.seq ?_
    refine WT.region ?_
    refine lq (q_assign rfl) rfl ?_
    refine WL.nil ?_
    refine WT.ret Try.func5 (resOk.one rfl) (fun w1 hw => ?_)
    cases h
    exact post_of_St hw
  replace h := ite_f h c17
  refine WT.skip ?_
  refine WT.seq ?_
  refine WT.region ?_
  refine lq (q_assign rfl) rfl ?_
  refine WL.nil ?_
  refine WT.ret Try.func5 (resOk.one rfl) (fun w1 hw => ?_)
  cases h
  exact post_of_St hw
end Go.Proofs.Ytjangilipfjcmaa
