/- Printed by a program of ours: each Go function computes its Lean function. -/
import Derived.Test.YtelchcokfcdndaaGreatProg
import Derived.Test.YtelchcokfcdndaaGreatWExactAllMatchesWalk5
namespace Go.Proofs.YtelchcokfcdndaaGreat
open Eng
open Go.RowKit (Below)
set_option linter.unusedVariables false
set_option linter.unusedSimpArgs false

set_option maxRecDepth 100000
set_option maxHeartbeats 1000000
theorem m_l_markExprS_ok {Φ : Hp} {w : World} (hΦ : In Φ w) (N : Nat) (p0 : (List TExpr)) (p1 : Int) {pv0 : Value} (ph0 : OSl RTExpr 191 11 Φ [] pv0 p0) (hB : [ob pv0].flatten.Nodup) (hlt : ∀ k ∈ [ob pv0].flatten, k < w.heap.size) {r : Int × (List TExpr)} (h : m_l_markExprS N p0 p1 = some r) :
  Calls Tryz.prog 118 [pv0, .int .i64 p1].toArray w (PostG Φ w [ob pv0].flatten (fun Φ' Fs v => v = .int .i64 r.1 ∧ Fs = [ob pv0] ∧ OSl RTExpr 191 11 Φ' [] pv0 r.2)) := by
 refine enter Tryz.func118 rfl Tryz.ntmps118 rfl (St.start hΦ [ob pv0] hB hlt) ?_
 generalize hb0 : (⟨w, [ob pv0].flatten, Φ⟩ : Base) = w0
 unfold m_l_markExprS at h
 refine sr <| la rfl <| en <| sq <| sr <| la rfl <| en <| blk ?_
 refine loop_in (σ := Hp × (List TExpr) × Int × Int) (fun s => [(0, pv0), (1, .int .i64 s.2.2.1), (5, .int .i64 s.2.2.2)]) (fun s => St w0 s.1 [] [ob pv0]) (fun m s => m_l_markExprS_l1 N m s.2.1 s.2.2.1 s.2.2.2 = some r ∧ (OSl RTExpr 191 11 s.1 [] pv0 s.2.1)) (Φ, p0, p1, 0) N ⟨h, ph0⟩ ⟨rfl, rfl, rfl, trivial⟩ (fun w1 hw => (hw.sel (js := [0]) rfl).selO (js := []) rfl) (fun s hm => none_ne hm.1) (fun n1 ih1 s hm => ?_)
 obtain ⟨Φ_1, s1, s2, s3⟩ := s
 obtain ⟨h, k1⟩ := hm
 dsimp only at h k1 ⊢
 unfold m_l_markExprS_l1 at h
 refine sq <| sr <| la rfl <| la rfl <| lq (q_lenR Sl_141 rfl rfl k1.rsl) rfl <| la rfl <| en ?_
 refine cdh rfl h (fun c1 h => ?_) (fun c1 h => ?_)
 ·refine WT.skip <| sq <| blk <| sr <| la rfl <| la rfl <| la rfl ?_
  obtain ⟨x1, hx1, h⟩ := bs h
  refine lp (p_call Fun_116 rfl (fun w1 hw => m_l_markText_ok hw.fro N s2 hx1)) rfl ?_
  obtain ⟨x2, hx2, h⟩ := bs h
  obtain ⟨cs1, F1, h1, r1⟩ := k1.focusF RTExpr.flat hx2
  obtain ⟨rfl, -⟩ := r1
  refine lq (q_indexAddrH Sl_141 rfl rfl h1 hx2) rfl <| lf Fld_191_0 rfl rfl rfl ?_
  refine lu (u_setH (js := [0]) (Rr := []) (o := 0) (vs := [.string x1]) (cs' := [.string x1, .int .i64 x2.L.K, .string x2.L.S, .int .i64 x2.L.V.K, .int .i64 x2.L.V.N, .string x2.L.V.S, .int .i64 x2.R.K, .string x2.R.S, .int .i64 x2.R.V.K, .int .i64 x2.R.V.N, .string x2.R.V.S]) RTExpr.lasts Sz_9 rfl rfl rfl rfl ⟨rfl, trivial⟩ rfl h1 rfl rfl (fun ap => (Dj.nil _))) rfl (fun Φ_2 D2 q1 => ?_)
  obtain ⟨⟨ap1, fr1⟩, h2⟩ := q1
  refine en <| sr <| la rfl <| la rfl <| la rfl <| en <| sr <| la rfl <| la rfl <| la rfl <| lq (q_indexAddrH Sl_141 rfl rfl h2 hx2) rfl <| lf Fld_191_1 rfl rfl rfl <| lf Fld_137_0 rfl rfl rfl ?_
  refine lu (u_setH (js := [0]) (Rr := []) (o := 1) (vs := [.int .i64 (IntKind.i64.wrap (s2 + 1))]) (cs' := [.string x1, .int .i64 (IntKind.i64.wrap (s2 + 1)), .string x2.L.S, .int .i64 x2.L.V.K, .int .i64 x2.L.V.N, .string x2.L.V.S, .int .i64 x2.R.K, .string x2.R.S, .int .i64 x2.R.V.K, .int .i64 x2.R.V.N, .string x2.R.V.S]) RTExpr.lasts Sz_3 rfl rfl rfl rfl ⟨rfl, trivial⟩ rfl h2 rfl rfl (fun ap => (Dj.nil _))) rfl (fun Φ_3 D3 q2 => ?_)
  obtain ⟨⟨ap2, fr2⟩, h3⟩ := q2
  refine en <| sr <| la rfl <| la rfl <| la rfl <| en <| sr <| la rfl <| la rfl <| la rfl ?_
  obtain ⟨x3, hx3, h⟩ := bs h
  refine lp (p_call Fun_116 rfl (fun w1 hw => m_l_markText_ok hw.fro N (IntKind.i64.wrap ((IntKind.i64.wrap (s2 + 1)) + 1)) hx3)) rfl <| lq (q_indexAddrH Sl_141 rfl rfl h3 hx2) rfl <| lf Fld_191_1 rfl rfl rfl <| lf Fld_137_1 rfl rfl rfl ?_
  refine lu (u_setH (js := [0]) (Rr := []) (o := 2) (vs := [.string x3]) (cs' := [.string x1, .int .i64 (IntKind.i64.wrap (s2 + 1)), .string x3, .int .i64 x2.L.V.K, .int .i64 x2.L.V.N, .string x2.L.V.S, .int .i64 x2.R.K, .string x2.R.S, .int .i64 x2.R.V.K, .int .i64 x2.R.V.N, .string x2.R.V.S]) RTExpr.lasts Sz_9 rfl rfl rfl rfl ⟨rfl, trivial⟩ rfl h3 rfl rfl (fun ap => (Dj.nil _))) rfl (fun Φ_4 D4 q3 => ?_)
  obtain ⟨⟨ap3, fr3⟩, h4⟩ := q3
  refine en <| sr <| la rfl <| la rfl <| la rfl <| en <| sr <| la rfl <| la rfl <| la rfl <| lq (q_indexAddrH Sl_141 rfl rfl h4 hx2) rfl <| lf Fld_191_1 rfl rfl rfl <| lf Fld_137_2 rfl rfl rfl <| lf Fld_85_0 rfl rfl rfl ?_
  refine lu (u_setH (js := [0]) (Rr := []) (o := 3) (vs := [.int .i64 (IntKind.i64.wrap ((IntKind.i64.wrap ((IntKind.i64.wrap (s2 + 1)) + 1)) + 1))]) (cs' := [.string x1, .int .i64 (IntKind.i64.wrap (s2 + 1)), .string x3, .int .i64 (IntKind.i64.wrap ((IntKind.i64.wrap ((IntKind.i64.wrap (s2 + 1)) + 1)) + 1)), .int .i64 x2.L.V.N, .string x2.L.V.S, .int .i64 x2.R.K, .string x2.R.S, .int .i64 x2.R.V.K, .int .i64 x2.R.V.N, .string x2.R.V.S]) RTExpr.lasts Sz_3 rfl rfl rfl rfl ⟨rfl, trivial⟩ rfl h4 rfl rfl (fun ap => (Dj.nil _))) rfl (fun Φ_5 D5 q4 => ?_)
  obtain ⟨⟨ap4, fr4⟩, h5⟩ := q4
  refine en <| sr <| la rfl <| la rfl <| la rfl <| en <| sr <| la rfl <| la rfl <| la rfl <| lq (q_indexAddrH Sl_141 rfl rfl h5 hx2) rfl <| lf Fld_191_1 rfl rfl rfl <| lf Fld_137_2 rfl rfl rfl <| lf Fld_85_1 rfl rfl rfl ?_
  refine lu (u_setH (js := [0]) (Rr := []) (o := 4) (vs := [.int .i64 (IntKind.i64.wrap ((IntKind.i64.wrap ((IntKind.i64.wrap ((IntKind.i64.wrap (s2 + 1)) + 1)) + 1)) + 1))]) (cs' := [.string x1, .int .i64 (IntKind.i64.wrap (s2 + 1)), .string x3, .int .i64 (IntKind.i64.wrap ((IntKind.i64.wrap ((IntKind.i64.wrap (s2 + 1)) + 1)) + 1)), .int .i64 (IntKind.i64.wrap ((IntKind.i64.wrap ((IntKind.i64.wrap ((IntKind.i64.wrap (s2 + 1)) + 1)) + 1)) + 1)), .string x2.L.V.S, .int .i64 x2.R.K, .string x2.R.S, .int .i64 x2.R.V.K, .int .i64 x2.R.V.N, .string x2.R.V.S]) RTExpr.lasts Sz_3 rfl rfl rfl rfl ⟨rfl, trivial⟩ rfl h5 rfl rfl (fun ap => (Dj.nil _))) rfl (fun Φ_6 D6 q5 => ?_)
  obtain ⟨⟨ap5, fr5⟩, h6⟩ := q5
  refine en <| sr <| la rfl <| la rfl <| la rfl <| en <| sr <| la rfl <| la rfl <| la rfl ?_
  obtain ⟨x4, hx4, h⟩ := bs h
  refine lp (p_call Fun_116 rfl (fun w1 hw => m_l_markText_ok hw.fro N (IntKind.i64.wrap ((IntKind.i64.wrap ((IntKind.i64.wrap ((IntKind.i64.wrap ((IntKind.i64.wrap (s2 + 1)) + 1)) + 1)) + 1)) + 1)) hx4)) rfl <| lq (q_indexAddrH Sl_141 rfl rfl h6 hx2) rfl <| lf Fld_191_1 rfl rfl rfl <| lf Fld_137_2 rfl rfl rfl <| lf Fld_85_2 rfl rfl rfl ?_
  refine lu (u_setH (js := [0]) (Rr := []) (o := 5) (vs := [.string x4]) (cs' := [.string x1, .int .i64 (IntKind.i64.wrap (s2 + 1)), .string x3, .int .i64 (IntKind.i64.wrap ((IntKind.i64.wrap ((IntKind.i64.wrap (s2 + 1)) + 1)) + 1)), .int .i64 (IntKind.i64.wrap ((IntKind.i64.wrap ((IntKind.i64.wrap ((IntKind.i64.wrap (s2 + 1)) + 1)) + 1)) + 1)), .string x4, .int .i64 x2.R.K, .string x2.R.S, .int .i64 x2.R.V.K, .int .i64 x2.R.V.N, .string x2.R.V.S]) RTExpr.lasts Sz_9 rfl rfl rfl rfl ⟨rfl, trivial⟩ rfl h6 rfl rfl (fun ap => (Dj.nil _))) rfl (fun Φ_7 D7 q6 => ?_)
  obtain ⟨⟨ap6, fr6⟩, h7⟩ := q6
  refine en <| sr <| la rfl <| la rfl <| la rfl <| en <| sr <| la rfl <| la rfl <| la rfl <| lq (q_indexAddrH Sl_141 rfl rfl h7 hx2) rfl <| lf Fld_191_2 rfl rfl rfl <| lf Fld_137_0 rfl rfl rfl ?_
  refine lu (u_setH (js := [0]) (Rr := []) (o := 6) (vs := [.int .i64 (IntKind.i64.wrap ((IntKind.i64.wrap ((IntKind.i64.wrap ((IntKind.i64.wrap ((IntKind.i64.wrap ((IntKind.i64.wrap (s2 + 1)) + 1)) + 1)) + 1)) + 1)) + 1))]) (cs' := [.string x1, .int .i64 (IntKind.i64.wrap (s2 + 1)), .string x3, .int .i64 (IntKind.i64.wrap ((IntKind.i64.wrap ((IntKind.i64.wrap (s2 + 1)) + 1)) + 1)), .int .i64 (IntKind.i64.wrap ((IntKind.i64.wrap ((IntKind.i64.wrap ((IntKind.i64.wrap (s2 + 1)) + 1)) + 1)) + 1)), .string x4, .int .i64 (IntKind.i64.wrap ((IntKind.i64.wrap ((IntKind.i64.wrap ((IntKind.i64.wrap ((IntKind.i64.wrap ((IntKind.i64.wrap (s2 + 1)) + 1)) + 1)) + 1)) + 1)) + 1)), .string x2.R.S, .int .i64 x2.R.V.K, .int .i64 x2.R.V.N, .string x2.R.V.S]) RTExpr.lasts Sz_3 rfl rfl rfl rfl ⟨rfl, trivial⟩ rfl h7 rfl rfl (fun ap => (Dj.nil _))) rfl (fun Φ_8 D8 q7 => ?_)
  obtain ⟨⟨ap7, fr7⟩, h8⟩ := q7
  refine en <| sr <| la rfl <| la rfl <| la rfl <| en <| sr <| la rfl <| la rfl <| la rfl ?_
  obtain ⟨x5, hx5, h⟩ := bs h
  refine lp (p_call Fun_116 rfl (fun w1 hw => m_l_markText_ok hw.fro N (IntKind.i64.wrap ((IntKind.i64.wrap ((IntKind.i64.wrap ((IntKind.i64.wrap ((IntKind.i64.wrap ((IntKind.i64.wrap ((IntKind.i64.wrap (s2 + 1)) + 1)) + 1)) + 1)) + 1)) + 1)) + 1)) hx5)) rfl <| lq (q_indexAddrH Sl_141 rfl rfl h8 hx2) rfl <| lf Fld_191_2 rfl rfl rfl <| lf Fld_137_1 rfl rfl rfl ?_
  refine lu (u_setH (js := [0]) (Rr := []) (o := 7) (vs := [.string x5]) (cs' := [.string x1, .int .i64 (IntKind.i64.wrap (s2 + 1)), .string x3, .int .i64 (IntKind.i64.wrap ((IntKind.i64.wrap ((IntKind.i64.wrap (s2 + 1)) + 1)) + 1)), .int .i64 (IntKind.i64.wrap ((IntKind.i64.wrap ((IntKind.i64.wrap ((IntKind.i64.wrap (s2 + 1)) + 1)) + 1)) + 1)), .string x4, .int .i64 (IntKind.i64.wrap ((IntKind.i64.wrap ((IntKind.i64.wrap ((IntKind.i64.wrap ((IntKind.i64.wrap ((IntKind.i64.wrap (s2 + 1)) + 1)) + 1)) + 1)) + 1)) + 1)), .string x5, .int .i64 x2.R.V.K, .int .i64 x2.R.V.N, .string x2.R.V.S]) RTExpr.lasts Sz_9 rfl rfl rfl rfl ⟨rfl, trivial⟩ rfl h8 rfl rfl (fun ap => (Dj.nil _))) rfl (fun Φ_9 D9 q8 => ?_)
  obtain ⟨⟨ap8, fr8⟩, h9⟩ := q8
  refine en <| sr <| la rfl <| la rfl <| la rfl <| en <| sr <| la rfl <| la rfl <| la rfl <| lq (q_indexAddrH Sl_141 rfl rfl h9 hx2) rfl <| lf Fld_191_2 rfl rfl rfl <| lf Fld_137_2 rfl rfl rfl <| lf Fld_85_0 rfl rfl rfl ?_
  refine lu (u_setH (js := [0]) (Rr := []) (o := 8) (vs := [.int .i64 (IntKind.i64.wrap ((IntKind.i64.wrap ((IntKind.i64.wrap ((IntKind.i64.wrap ((IntKind.i64.wrap ((IntKind.i64.wrap ((IntKind.i64.wrap ((IntKind.i64.wrap (s2 + 1)) + 1)) + 1)) + 1)) + 1)) + 1)) + 1)) + 1))]) (cs' := [.string x1, .int .i64 (IntKind.i64.wrap (s2 + 1)), .string x3, .int .i64 (IntKind.i64.wrap ((IntKind.i64.wrap ((IntKind.i64.wrap (s2 + 1)) + 1)) + 1)), .int .i64 (IntKind.i64.wrap ((IntKind.i64.wrap ((IntKind.i64.wrap ((IntKind.i64.wrap (s2 + 1)) + 1)) + 1)) + 1)), .string x4, .int .i64 (IntKind.i64.wrap ((IntKind.i64.wrap ((IntKind.i64.wrap ((IntKind.i64.wrap ((IntKind.i64.wrap ((IntKind.i64.wrap (s2 + 1)) + 1)) + 1)) + 1)) + 1)) + 1)), .string x5, .int .i64 (IntKind.i64.wrap ((IntKind.i64.wrap ((IntKind.i64.wrap ((IntKind.i64.wrap ((IntKind.i64.wrap ((IntKind.i64.wrap ((IntKind.i64.wrap ((IntKind.i64.wrap (s2 + 1)) + 1)) + 1)) + 1)) + 1)) + 1)) + 1)) + 1)), .int .i64 x2.R.V.N, .string x2.R.V.S]) RTExpr.lasts Sz_3 rfl rfl rfl rfl ⟨rfl, trivial⟩ rfl h9 rfl rfl (fun ap => (Dj.nil _))) rfl (fun Φ_10 D10 q9 => ?_)
  obtain ⟨⟨ap9, fr9⟩, h10⟩ := q9
  refine en <| sr <| la rfl <| la rfl <| la rfl <| en <| sr <| la rfl <| la rfl <| la rfl <| lq (q_indexAddrH Sl_141 rfl rfl h10 hx2) rfl <| lf Fld_191_2 rfl rfl rfl <| lf Fld_137_2 rfl rfl rfl <| lf Fld_85_1 rfl rfl rfl ?_
  refine lu (u_setH (js := [0]) (Rr := []) (o := 9) (vs := [.int .i64 (IntKind.i64.wrap ((IntKind.i64.wrap ((IntKind.i64.wrap ((IntKind.i64.wrap ((IntKind.i64.wrap ((IntKind.i64.wrap ((IntKind.i64.wrap ((IntKind.i64.wrap ((IntKind.i64.wrap (s2 + 1)) + 1)) + 1)) + 1)) + 1)) + 1)) + 1)) + 1)) + 1))]) (cs' := [.string x1, .int .i64 (IntKind.i64.wrap (s2 + 1)), .string x3, .int .i64 (IntKind.i64.wrap ((IntKind.i64.wrap ((IntKind.i64.wrap (s2 + 1)) + 1)) + 1)), .int .i64 (IntKind.i64.wrap ((IntKind.i64.wrap ((IntKind.i64.wrap ((IntKind.i64.wrap (s2 + 1)) + 1)) + 1)) + 1)), .string x4, .int .i64 (IntKind.i64.wrap ((IntKind.i64.wrap ((IntKind.i64.wrap ((IntKind.i64.wrap ((IntKind.i64.wrap ((IntKind.i64.wrap (s2 + 1)) + 1)) + 1)) + 1)) + 1)) + 1)), .string x5, .int .i64 (IntKind.i64.wrap ((IntKind.i64.wrap ((IntKind.i64.wrap ((IntKind.i64.wrap ((IntKind.i64.wrap ((IntKind.i64.wrap ((IntKind.i64.wrap ((IntKind.i64.wrap (s2 + 1)) + 1)) + 1)) + 1)) + 1)) + 1)) + 1)) + 1)), .int .i64 (IntKind.i64.wrap ((IntKind.i64.wrap ((IntKind.i64.wrap ((IntKind.i64.wrap ((IntKind.i64.wrap ((IntKind.i64.wrap ((IntKind.i64.wrap ((IntKind.i64.wrap ((IntKind.i64.wrap (s2 + 1)) + 1)) + 1)) + 1)) + 1)) + 1)) + 1)) + 1)) + 1)), .string x2.R.V.S]) RTExpr.lasts Sz_3 rfl rfl rfl rfl ⟨rfl, trivial⟩ rfl h10 rfl rfl (fun ap => (Dj.nil _))) rfl (fun Φ_11 D11 q10 => ?_)
  obtain ⟨⟨ap10, fr10⟩, h11⟩ := q10
  refine en <| sr <| la rfl <| la rfl <| la rfl <| en <| sr <| la rfl <| la rfl <| la rfl ?_
  obtain ⟨x6, hx6, h⟩ := bs h
  refine lp (p_call Fun_116 rfl (fun w1 hw => m_l_markText_ok hw.fro N (IntKind.i64.wrap ((IntKind.i64.wrap ((IntKind.i64.wrap ((IntKind.i64.wrap ((IntKind.i64.wrap ((IntKind.i64.wrap ((IntKind.i64.wrap ((IntKind.i64.wrap ((IntKind.i64.wrap ((IntKind.i64.wrap (s2 + 1)) + 1)) + 1)) + 1)) + 1)) + 1)) + 1)) + 1)) + 1)) + 1)) hx6)) rfl <| lq (q_indexAddrH Sl_141 rfl rfl h11 hx2) rfl <| lf Fld_191_2 rfl rfl rfl <| lf Fld_137_2 rfl rfl rfl ?_
  refine lf Fld_85_2 rfl rfl rfl ?_
  refine lu (u_setH (js := [0]) (Rr := []) (o := 10) (vs := [.string x6]) (cs' := [.string x1, .int .i64 (IntKind.i64.wrap (s2 + 1)), .string x3, .int .i64 (IntKind.i64.wrap ((IntKind.i64.wrap ((IntKind.i64.wrap (s2 + 1)) + 1)) + 1)), .int .i64 (IntKind.i64.wrap ((IntKind.i64.wrap ((IntKind.i64.wrap ((IntKind.i64.wrap (s2 + 1)) + 1)) + 1)) + 1)), .string x4, .int .i64 (IntKind.i64.wrap ((IntKind.i64.wrap ((IntKind.i64.wrap ((IntKind.i64.wrap ((IntKind.i64.wrap ((IntKind.i64.wrap (s2 + 1)) + 1)) + 1)) + 1)) + 1)) + 1)), .string x5, .int .i64 (IntKind.i64.wrap ((IntKind.i64.wrap ((IntKind.i64.wrap ((IntKind.i64.wrap ((IntKind.i64.wrap ((IntKind.i64.wrap ((IntKind.i64.wrap ((IntKind.i64.wrap (s2 + 1)) + 1)) + 1)) + 1)) + 1)) + 1)) + 1)) + 1)), .int .i64 (IntKind.i64.wrap ((IntKind.i64.wrap ((IntKind.i64.wrap ((IntKind.i64.wrap ((IntKind.i64.wrap ((IntKind.i64.wrap ((IntKind.i64.wrap ((IntKind.i64.wrap ((IntKind.i64.wrap (s2 + 1)) + 1)) + 1)) + 1)) + 1)) + 1)) + 1)) + 1)) + 1)), .string x6]) RTExpr.lasts Sz_9 rfl rfl rfl rfl ⟨rfl, trivial⟩ rfl h11 rfl rfl (fun ap => (Dj.nil _))) rfl (fun Φ_12 D12 q11 => ?_)
  obtain ⟨⟨ap11, fr11⟩, h12⟩ := q11
  refine en <| rgn <| la rfl <| la rfl <| la rfl <| en <| ib <| rgn <| la rfl <| la rfl <| la rfl <| en ?_
  have h13 := h12.unfocusF RTExpr.flat (cs := [.string x1, .int .i64 (IntKind.i64.wrap (s2 + 1)), .string x3, .int .i64 (IntKind.i64.wrap ((IntKind.i64.wrap ((IntKind.i64.wrap (s2 + 1)) + 1)) + 1)), .int .i64 (IntKind.i64.wrap ((IntKind.i64.wrap ((IntKind.i64.wrap ((IntKind.i64.wrap (s2 + 1)) + 1)) + 1)) + 1)), .string x4, .int .i64 (IntKind.i64.wrap ((IntKind.i64.wrap ((IntKind.i64.wrap ((IntKind.i64.wrap ((IntKind.i64.wrap ((IntKind.i64.wrap (s2 + 1)) + 1)) + 1)) + 1)) + 1)) + 1)), .string x5, .int .i64 (IntKind.i64.wrap ((IntKind.i64.wrap ((IntKind.i64.wrap ((IntKind.i64.wrap ((IntKind.i64.wrap ((IntKind.i64.wrap ((IntKind.i64.wrap ((IntKind.i64.wrap (s2 + 1)) + 1)) + 1)) + 1)) + 1)) + 1)) + 1)) + 1)), .int .i64 (IntKind.i64.wrap ((IntKind.i64.wrap ((IntKind.i64.wrap ((IntKind.i64.wrap ((IntKind.i64.wrap ((IntKind.i64.wrap ((IntKind.i64.wrap ((IntKind.i64.wrap ((IntKind.i64.wrap (s2 + 1)) + 1)) + 1)) + 1)) + 1)) + 1)) + 1)) + 1)) + 1)), .string x6]) (x' := (⟨x1, (⟨IntKind.i64.wrap (s2 + 1), x3, (⟨IntKind.i64.wrap ((IntKind.i64.wrap ((IntKind.i64.wrap (s2 + 1)) + 1)) + 1), IntKind.i64.wrap ((IntKind.i64.wrap ((IntKind.i64.wrap ((IntKind.i64.wrap (s2 + 1)) + 1)) + 1)) + 1), x4⟩ : TVal)⟩ : TArg), (⟨IntKind.i64.wrap ((IntKind.i64.wrap ((IntKind.i64.wrap ((IntKind.i64.wrap ((IntKind.i64.wrap ((IntKind.i64.wrap (s2 + 1)) + 1)) + 1)) + 1)) + 1)) + 1), x5, (⟨IntKind.i64.wrap ((IntKind.i64.wrap ((IntKind.i64.wrap ((IntKind.i64.wrap ((IntKind.i64.wrap ((IntKind.i64.wrap ((IntKind.i64.wrap ((IntKind.i64.wrap (s2 + 1)) + 1)) + 1)) + 1)) + 1)) + 1)) + 1)) + 1), IntKind.i64.wrap ((IntKind.i64.wrap ((IntKind.i64.wrap ((IntKind.i64.wrap ((IntKind.i64.wrap ((IntKind.i64.wrap ((IntKind.i64.wrap ((IntKind.i64.wrap ((IntKind.i64.wrap (s2 + 1)) + 1)) + 1)) + 1)) + 1)) + 1)) + 1)) + 1)) + 1), x6⟩ : TVal)⟩ : TArg)⟩ : TExpr)) ⟨rfl, rfl⟩
  exact lback (ih1 (Φ_12, (s1.set s3.toNat (⟨x1, (⟨IntKind.i64.wrap (s2 + 1), x3, (⟨IntKind.i64.wrap ((IntKind.i64.wrap ((IntKind.i64.wrap (s2 + 1)) + 1)) + 1), IntKind.i64.wrap ((IntKind.i64.wrap ((IntKind.i64.wrap ((IntKind.i64.wrap (s2 + 1)) + 1)) + 1)) + 1), x4⟩ : TVal)⟩ : TArg), (⟨IntKind.i64.wrap ((IntKind.i64.wrap ((IntKind.i64.wrap ((IntKind.i64.wrap ((IntKind.i64.wrap ((IntKind.i64.wrap (s2 + 1)) + 1)) + 1)) + 1)) + 1)) + 1), x5, (⟨IntKind.i64.wrap ((IntKind.i64.wrap ((IntKind.i64.wrap ((IntKind.i64.wrap ((IntKind.i64.wrap ((IntKind.i64.wrap ((IntKind.i64.wrap ((IntKind.i64.wrap (s2 + 1)) + 1)) + 1)) + 1)) + 1)) + 1)) + 1)) + 1), IntKind.i64.wrap ((IntKind.i64.wrap ((IntKind.i64.wrap ((IntKind.i64.wrap ((IntKind.i64.wrap ((IntKind.i64.wrap ((IntKind.i64.wrap ((IntKind.i64.wrap ((IntKind.i64.wrap (s2 + 1)) + 1)) + 1)) + 1)) + 1)) + 1)) + 1)) + 1)) + 1), x6⟩ : TVal)⟩ : TArg)⟩ : TExpr)), IntKind.i64.wrap ((IntKind.i64.wrap ((IntKind.i64.wrap ((IntKind.i64.wrap ((IntKind.i64.wrap ((IntKind.i64.wrap ((IntKind.i64.wrap ((IntKind.i64.wrap ((IntKind.i64.wrap ((IntKind.i64.wrap ((IntKind.i64.wrap (s2 + 1)) + 1)) + 1)) + 1)) + 1)) + 1)) + 1)) + 1)) + 1)) + 1)) + 1), IntKind.i64.wrap (s3 + 1)) ⟨h, h13⟩) ⟨rfl, rfl, rfl, trivial⟩ (fun w1 hw => (hw.sel (js := [0]) rfl).selO (js := []) rfl)
 refine xt rfl <| sr <| la rfl <| la rfl <| en ?_
 refine WT.ret Tryz.func118 (resOk.one rfl) (fun w1 hw => ?_)
 subst hb0
 cases h
 refine postG_of_St (js := [0]) hw rfl ⟨rfl, rfl, k1⟩
theorem m_l_markActS_ok {Φ : Hp} {w : World} (hΦ : In Φ w) (N : Nat) (p0 : (List TAct)) (p1 : Int) {pv0 : Value} {pD0 : List Nat} (ph0 : OSl OTAct 143 5 Φ pD0 pv0 p0) (hB : [ob pv0, pD0].flatten.Nodup) (hlt : ∀ k ∈ [ob pv0, pD0].flatten, k < w.heap.size) {r : Int × (List TAct)} (h : m_l_markActS N p0 p1 = some r) :
  Calls Tryz.prog 62 [pv0, .int .i64 p1].toArray w (PostG Φ w [ob pv0, pD0].flatten (fun Φ' Fs v => ∃ (Do_0_0 : List Nat), v = .int .i64 r.1 ∧ Fs = [ob pv0, Do_0_0] ∧ OSl OTAct 143 5 Φ' Do_0_0 pv0 r.2)) := by
 refine enter Tryz.func62 rfl Tryz.ntmps62 rfl (St.start hΦ [ob pv0, pD0] hB hlt) ?_
 generalize hb0 : (⟨w, [ob pv0, pD0].flatten, Φ⟩ : Base) = w0
 unfold m_l_markActS at h
 refine sr <| la rfl <| en <| sq <| sr <| la rfl <| en <| blk ?_
 refine loop_in (σ := Hp × (List TAct) × List Nat × Int × Int) (fun s => [(0, pv0), (1, .int .i64 s.2.2.2.1), (5, .int .i64 s.2.2.2.2)]) (fun s => St w0 s.1 [] [ob pv0, s.2.2.1]) (fun m s => m_l_markActS_l1 N m s.2.1 s.2.2.2.1 s.2.2.2.2 = some r ∧ (OSl OTAct 143 5 s.1 s.2.2.1 pv0 s.2.1)) (Φ, p0, pD0, p1, 0) N ⟨h, ph0⟩ ⟨rfl, rfl, rfl, trivial⟩ (fun w1 hw => (hw.sel (js := [0, 0]) rfl).selO (js := []) rfl) (fun s hm => none_ne hm.1) (fun n1 ih1 s hm => ?_)
 obtain ⟨Φ_1, s1, D1, s2, s3⟩ := s
 obtain ⟨h, k1⟩ := hm
 dsimp only at h k1 ⊢
 unfold m_l_markActS_l1 at h
 refine sq <| sr <| la rfl <| la rfl <| lq (q_lenR Sl_38 rfl rfl (k1.rslG OTAct.gives)) rfl <| la rfl <| en ?_
 refine cdh rfl h (fun c1 h => ?_) (fun c1 h => ?_)
 ·refine WT.skip <| sq <| blk <| sr <| la rfl <| la rfl <| la rfl ?_
  obtain ⟨x1, hx1, h⟩ := bs h
  obtain ⟨cs1, F1, D2, h1, r1, kf1, sp1⟩ := k1.focus hx1
  obtain ⟨v1, rfl, rfl, h2⟩ := r1
  refine WL.conv (S' := St w0 Φ_1 [] [ob v1, D2, ob pv0]) (fun w1 hw => hw.re (js := [1]) (Bs := [ob v1, D2]) rfl (by simpa [List.append_assoc] using sp1)) <| lq (q_indexAddrH Sl_38 rfl rfl h1 hx1) rfl <| lf Fld_143_0 rfl rfl rfl ?_
  refine lu (u_setH (js := [2]) (Rr := [ob v1, D2]) (o := 0) (vs := [.int .i64 s2]) (cs' := [.int .i64 s2, .string x1.Name, v1, .int .i64 x1.N, .string x1.Undo]) OTAct.lasts Sz_3 rfl rfl rfl rfl ⟨rfl, trivial⟩ rfl h1 rfl rfl (fun ap => (ap.r (i := 1) rfl))) rfl (fun Φ_2 D3 q1 => ?_)
  obtain ⟨⟨ap1, fr1⟩, h3⟩ := q1
  replace h2 := h2.frame RTExpr.lasts fr1 (ap1.r (i := 0) rfl) (Dj.nil _)
  refine en <| sr <| la rfl <| la rfl <| la rfl <| en <| sr <| la rfl <| la rfl <| la rfl ?_
  obtain ⟨x2, hx2, h⟩ := bs h
  refine lp (p_call Fun_116 rfl (fun w1 hw => m_l_markText_ok hw.fro N (IntKind.i64.wrap (s2 + 1)) hx2)) rfl <| lq (q_indexAddrH Sl_38 rfl rfl h3 hx1) rfl <| lf Fld_143_1 rfl rfl rfl ?_
  refine lu (u_setH (js := [0]) (Rr := [ob v1, D2]) (o := 1) (vs := [.string x2]) (cs' := [.int .i64 s2, .string x2, v1, .int .i64 x1.N, .string x1.Undo]) OTAct.lasts Sz_9 rfl rfl rfl rfl ⟨rfl, trivial⟩ rfl h3 rfl rfl (fun ap => (ap.r (i := 1) rfl))) rfl (fun Φ_3 D4 q2 => ?_)
  obtain ⟨⟨ap2, fr2⟩, h4⟩ := q2
  replace h2 := h2.frame RTExpr.lasts fr2 (ap2.r (i := 0) rfl) (Dj.nil _)
  refine en <| sr <| la rfl <| la rfl <| la rfl <| en <| sr <| la rfl <| la rfl <| lq (q_indexAddrH Sl_38 rfl rfl h4 hx1) rfl <| lf Fld_143_2 rfl rfl rfl <| lg 2 T1_141 h4.rg rfl rfl <| la rfl ?_
  obtain ⟨x3, hx3, h⟩ := bs h
  refine lc (k_call (js := [1]) (R := [ob pv0, D2]) Fun_118 rfl rfl (fun w1 hw ap hl => m_l_markExprS_ok hw.fro N x1.Args (IntKind.i64.wrap ((IntKind.i64.wrap (s2 + 1)) + 1)) h2 ap.nd hl hx3)) rfl (fun v2 Φ_4 F2 q3 => ?_)
  obtain ⟨ap3, fr3, rfl, rfl, h5⟩ := q3
  replace h4 := h4.frame OTAct.lasts fr3 (ap3.r (i := 0) rfl) (ap3.r (i := 1) rfl)
  refine la rfl <| en <| sr <| la rfl <| la rfl <| la rfl <| lq (q_indexAddrH Sl_38 rfl rfl h4 hx1) rfl <| lf Fld_143_3 rfl rfl rfl ?_
  refine lu (u_setH (js := [1]) (Rr := [ob v1, D2]) (o := 3) (vs := [.int .i64 x3.1]) (cs' := [.int .i64 s2, .string x2, v1, .int .i64 x3.1, .string x1.Undo]) OTAct.lasts Sz_3 rfl rfl rfl rfl ⟨rfl, trivial⟩ rfl h4 rfl rfl (fun ap => (ap.r (i := 1) rfl))) rfl (fun Φ_5 D5 q4 => ?_)
  obtain ⟨⟨ap4, fr4⟩, h6⟩ := q4
  replace h5 := h5.frame RTExpr.lasts fr4 (ap4.r (i := 0) rfl) (Dj.nil _)
  refine en <| sr <| la rfl <| la rfl <| la rfl <| en <| sr <| la rfl <| la rfl <| la rfl ?_
  obtain ⟨x4, hx4, h⟩ := bs h
  refine lp (p_call Fun_116 rfl (fun w1 hw => m_l_markText_ok hw.fro N (IntKind.i64.wrap (x3.1 + 1)) hx4)) rfl <| lq (q_indexAddrH Sl_38 rfl rfl h6 hx1) rfl <| lf Fld_143_4 rfl rfl rfl ?_
  refine lu (u_setH (js := [0]) (Rr := [ob v1, D2]) (o := 4) (vs := [.string x4]) (cs' := [.int .i64 s2, .string x2, v1, .int .i64 x3.1, .string x4]) OTAct.lasts Sz_9 rfl rfl rfl rfl ⟨rfl, trivial⟩ rfl h6 rfl rfl (fun ap => (ap.r (i := 1) rfl))) rfl (fun Φ_6 D6 q5 => ?_)
  obtain ⟨⟨ap5, fr5⟩, h7⟩ := q5
  replace h5 := h5.frame RTExpr.lasts fr5 (ap5.r (i := 0) rfl) (Dj.nil _)
  refine en <| rgn <| la rfl <| la rfl <| la rfl <| en <| ib <| rgn <| la rfl <| la rfl <| la rfl <| en ?_
  have r2 : OTAct Φ_6 _ [.int .i64 s2, .string x2, v1, .int .i64 x3.1, .string x4] (⟨s2, x2, x3.2, x3.1, x4⟩ : TAct) := ⟨v1, rfl, rfl, h5⟩
  obtain ⟨D7, h8, sp2⟩ := h7.unfocus r2 (OTAct.knows _ _ _ _ r2)
  refine WT.conv (S' := St w0 Φ_6 [] [D7, ob pv0]) (fun w1 hw => hw.merge (js := [1, 1]) rfl (by simpa [List.append_assoc, ob_nil] using sp2)) ?_
  exact lback (ih1 (Φ_6, (s1.set s3.toNat (⟨s2, x2, x3.2, x3.1, x4⟩ : TAct)), D7, IntKind.i64.wrap ((IntKind.i64.wrap (x3.1 + 1)) + 1), IntKind.i64.wrap (s3 + 1)) ⟨h, h8⟩) ⟨rfl, rfl, rfl, trivial⟩ (fun w1 hw => (hw.sel (js := [1, 0]) rfl).selO (js := []) rfl)
 refine xt rfl <| sr <| la rfl <| la rfl <| en ?_
 refine WT.ret Tryz.func62 (resOk.one rfl) (fun w1 hw => ?_)
 subst hb0
 cases h
 refine postG_of_St (js := [0, 0]) hw rfl ⟨D1, rfl, rfl, k1⟩
theorem m_l_markRuleS_ok {Φ : Hp} {w : World} (hΦ : In Φ w) (N : Nat) (p0 : (List TRule)) (p1 : Int) {pv0 : Value} {pD0 : List Nat} (ph0 : OSl OTRule 40 5 Φ pD0 pv0 p0) (hB : [ob pv0, pD0].flatten.Nodup) (hlt : ∀ k ∈ [ob pv0, pD0].flatten, k < w.heap.size) {r : Int × (List TRule)} (h : m_l_markRuleS N p0 p1 = some r) :
  Calls Tryz.prog 71 [pv0, .int .i64 p1].toArray w (PostG Φ w [ob pv0, pD0].flatten (fun Φ' Fs v => ∃ (Do_0_0 : List Nat), v = .int .i64 r.1 ∧ Fs = [ob pv0, Do_0_0] ∧ OSl OTRule 40 5 Φ' Do_0_0 pv0 r.2)) := by
 refine enter Tryz.func71 rfl Tryz.ntmps71 rfl (St.start hΦ [ob pv0, pD0] hB hlt) ?_
 generalize hb0 : (⟨w, [ob pv0, pD0].flatten, Φ⟩ : Base) = w0
 unfold m_l_markRuleS at h
 refine sr <| la rfl <| en <| sq <| sr <| la rfl <| en <| blk ?_
 refine loop_in (σ := Hp × (List TRule) × List Nat × Int × Int) (fun s => [(0, pv0), (1, .int .i64 s.2.2.2.1), (5, .int .i64 s.2.2.2.2)]) (fun s => St w0 s.1 [] [ob pv0, s.2.2.1]) (fun m s => m_l_markRuleS_l1 N m s.2.1 s.2.2.2.1 s.2.2.2.2 = some r ∧ (OSl OTRule 40 5 s.1 s.2.2.1 pv0 s.2.1)) (Φ, p0, pD0, p1, 0) N ⟨h, ph0⟩ ⟨rfl, rfl, rfl, trivial⟩ (fun w1 hw => (hw.sel (js := [0, 0]) rfl).selO (js := []) rfl) (fun s hm => none_ne hm.1) (fun n1 ih1 s hm => ?_)
 obtain ⟨Φ_1, s1, D1, s2, s3⟩ := s
 obtain ⟨h, k1⟩ := hm
 dsimp only at h k1 ⊢
 unfold m_l_markRuleS_l1 at h
 refine sq <| sr <| la rfl <| la rfl <| lq (q_lenR Sl_24 rfl rfl (k1.rslG OTRule.gives)) rfl <| la rfl <| en ?_
 refine cdh rfl h (fun c1 h => ?_) (fun c1 h => ?_)
 ·refine WT.skip <| sq <| blk <| sr <| la rfl <| la rfl <| la rfl ?_
  obtain ⟨x1, hx1, h⟩ := bs h
  refine lp (p_call Fun_116 rfl (fun w1 hw => m_l_markText_ok hw.fro N s2 hx1)) rfl ?_
  obtain ⟨x2, hx2, h⟩ := bs h
  obtain ⟨cs1, F1, D2, h1, r1, kf1, sp1⟩ := k1.focus hx2
  obtain ⟨v1, D3, v2, v3, D4, rfl, rfl, h2, h3, h4⟩ := r1
  refine WL.conv (S' := St w0 Φ_1 [] [ob v1, D3, ob v2, ob v3, D4, D2, ob pv0]) (fun w1 hw => hw.re (js := [1]) (Bs := [ob v1, D3, ob v2, ob v3, D4, D2]) rfl (by simpa [List.append_assoc] using sp1)) <| lq (q_indexAddrH Sl_24 rfl rfl h1 hx2) rfl <| lf Fld_40_0 rfl rfl rfl ?_
  refine lu (u_setH (js := [6]) (Rr := [ob v1, D3, ob v2, ob v3, D4, D2]) (o := 0) (vs := [.string x1]) (cs' := [.string x1, .int .i64 x2.Sal, v1, v2, v3]) OTRule.lasts Sz_9 rfl rfl rfl rfl ⟨rfl, trivial⟩ rfl h1 rfl rfl (fun ap => (ap.r (i := 5) rfl))) rfl (fun Φ_2 D5 q1 => ?_)
  obtain ⟨⟨ap1, fr1⟩, h5⟩ := q1
  replace h2 := h2.frame OTPat.lasts fr1 (ap1.r (i := 0) rfl) (ap1.r (i := 1) rfl)
  replace h3 := h3.frame RTCond.lasts fr1 (ap1.r (i := 2) rfl) (Dj.nil _)
  replace h4 := h4.frame OTAct.lasts fr1 (ap1.r (i := 3) rfl) (ap1.r (i := 4) rfl)
  refine en <| sr <| la rfl <| la rfl <| la rfl <| en <| sr <| la rfl <| la rfl <| la rfl <| lq (q_indexAddrH Sl_24 rfl rfl h5 hx2) rfl <| lf Fld_40_1 rfl rfl rfl ?_
  refine lu (u_setH (js := [0]) (Rr := [ob v1, D3, ob v2, ob v3, D4, D2]) (o := 1) (vs := [.int .i64 (IntKind.i64.wrap (s2 + 1))]) (cs' := [.string x1, .int .i64 (IntKind.i64.wrap (s2 + 1)), v1, v2, v3]) OTRule.lasts Sz_3 rfl rfl rfl rfl ⟨rfl, trivial⟩ rfl h5 rfl rfl (fun ap => (ap.r (i := 5) rfl))) rfl (fun Φ_3 D6 q2 => ?_)
  obtain ⟨⟨ap2, fr2⟩, h6⟩ := q2
  replace h2 := h2.frame OTPat.lasts fr2 (ap2.r (i := 0) rfl) (ap2.r (i := 1) rfl)
  replace h3 := h3.frame RTCond.lasts fr2 (ap2.r (i := 2) rfl) (Dj.nil _)
  replace h4 := h4.frame OTAct.lasts fr2 (ap2.r (i := 3) rfl) (ap2.r (i := 4) rfl)
  refine en <| sr <| la rfl <| la rfl <| la rfl <| en <| sr <| la rfl <| la rfl <| lq (q_indexAddrH Sl_24 rfl rfl h6 hx2) rfl <| lf Fld_40_2 rfl rfl rfl <| lg 2 T1_36 h6.rg rfl rfl <| la rfl ?_
  obtain ⟨x3, hx3, h⟩ := bs h
  refine lc (k_call (js := [1, 1]) (R := [ob pv0, ob v2, ob v3, D4, D2]) Fun_60 rfl rfl (fun w1 hw ap hl => m_l_markPatS_ok hw.fro N x2.Pats (IntKind.i64.wrap ((IntKind.i64.wrap (s2 + 1)) + 1)) h2 ap.nd hl hx3)) rfl (fun v4 Φ_4 F2 q3 => ?_)
  obtain ⟨ap3, fr3, D7, rfl, rfl, h7⟩ := q3
  replace h6 := h6.frame OTRule.lasts fr3 (ap3.r (i := 0) rfl) (ap3.r (i := 4) rfl)
  replace h3 := h3.frame RTCond.lasts fr3 (ap3.r (i := 1) rfl) (Dj.nil _)
  replace h4 := h4.frame OTAct.lasts fr3 (ap3.r (i := 2) rfl) (ap3.r (i := 3) rfl)
  refine la rfl <| en <| sr <| la rfl <| la rfl <| lq (q_indexAddrH Sl_24 rfl rfl h6 hx2) rfl <| lf Fld_40_3 rfl rfl rfl <| lg 3 T1_37 h6.rg rfl rfl <| la rfl ?_
  obtain ⟨x4, hx4, h⟩ := bs h
  refine lc (k_call (js := [3]) (R := [ob v1, D7, ob pv0, ob v3, D4, D2]) Fun_61 rfl rfl (fun w1 hw ap hl => m_l_markCondS_ok hw.fro N x2.Conds x3.1 h3 ap.nd hl hx4)) rfl (fun v5 Φ_5 F3 q4 => ?_)
  obtain ⟨ap4, fr4, rfl, rfl, h8⟩ := q4
  replace h6 := h6.frame OTRule.lasts fr4 (ap4.r (i := 2) rfl) (ap4.r (i := 5) rfl)
  replace h7 := h7.frame OTPat.lasts fr4 (ap4.r (i := 0) rfl) (ap4.r (i := 1) rfl)
  replace h4 := h4.frame OTAct.lasts fr4 (ap4.r (i := 3) rfl) (ap4.r (i := 4) rfl)
  refine la rfl <| en <| rgn <| la rfl <| la rfl <| lq (q_indexAddrH Sl_24 rfl rfl h6 hx2) rfl <| lf Fld_40_4 rfl rfl rfl <| lg 4 T1_38 h6.rg rfl rfl <| la rfl ?_
  obtain ⟨x5, hx5, h⟩ := bs h
  refine lc (k_call (js := [4, 4]) (R := [ob v2, ob v1, D7, ob pv0, D2]) Fun_62 rfl rfl (fun w1 hw ap hl => m_l_markActS_ok hw.fro N x2.Acts x4.1 h4 ap.nd hl hx5)) rfl (fun v6 Φ_6 F4 q5 => ?_)
  obtain ⟨ap5, fr5, D8, rfl, rfl, h9⟩ := q5
  replace h6 := h6.frame OTRule.lasts fr5 (ap5.r (i := 3) rfl) (ap5.r (i := 4) rfl)
  replace h7 := h7.frame OTPat.lasts fr5 (ap5.r (i := 1) rfl) (ap5.r (i := 2) rfl)
  replace h8 := h8.frame RTCond.lasts fr5 (ap5.r (i := 0) rfl) (Dj.nil _)
  refine la rfl <| en <| ib <| rgn <| la rfl <| la rfl <| la rfl <| en ?_
  have r2 : OTRule Φ_6 _ [.string x1, .int .i64 (IntKind.i64.wrap (s2 + 1)), v1, v2, v3] (⟨x1, IntKind.i64.wrap (s2 + 1), x3.2, x4.2, x5.2⟩ : TRule) := ⟨v1, D7, v2, v3, D8, rfl, rfl, h7, h8, h9⟩
  obtain ⟨D9, h10, sp2⟩ := h6.unfocus r2 (OTRule.knows _ _ _ _ r2)
  refine WT.conv (S' := St w0 Φ_6 [] [D9, ob pv0]) (fun w1 hw => hw.merge (js := [3, 3, 2, 0, 0, 1]) rfl (by simpa [List.append_assoc, ob_nil] using sp2)) ?_
  exact lback (ih1 (Φ_6, (s1.set s3.toNat (⟨x1, IntKind.i64.wrap (s2 + 1), x3.2, x4.2, x5.2⟩ : TRule)), D9, x5.1, IntKind.i64.wrap (s3 + 1)) ⟨h, h10⟩) ⟨rfl, rfl, rfl, trivial⟩ (fun w1 hw => (hw.sel (js := [1, 0]) rfl).selO (js := []) rfl)
 refine xt rfl <| sr <| la rfl <| la rfl <| en ?_
 refine WT.ret Tryz.func71 (resOk.one rfl) (fun w1 hw => ?_)
 subst hb0
 cases h
 refine postG_of_St (js := [0, 0]) hw rfl ⟨D1, rfl, rfl, k1⟩
theorem m_l_markDef_ok {Φ : Hp} {w : World} (hΦ : In Φ w) (N : Nat) (p0 : TDef) (p1 : Int) {pv0_0 : Value} {pD0_0 : List Nat} (ph0_0 : OSl OTRule 40 5 Φ pD0_0 pv0_0 p0.Rules) (hB : [ob pv0_0, pD0_0].flatten.Nodup) (hlt : ∀ k ∈ [ob pv0_0, pD0_0].flatten, k < w.heap.size) {r : Int × (List TRule)} (h : m_l_markDef N p0 p1 = some r) :
  Calls Tryz.prog 29 [.agg [.string p0.Name, pv0_0].toArray, .int .i64 p1].toArray w (PostG Φ w [ob pv0_0, pD0_0].flatten (fun Φ' Fs v => ∃ (Do_0_0 : List Nat), v = .int .i64 r.1 ∧ Fs = [ob pv0_0, Do_0_0] ∧ OSl OTRule 40 5 Φ' Do_0_0 pv0_0 r.2)) := by
 refine enter Tryz.func29 rfl Tryz.ntmps29 rfl (St.start hΦ [ob pv0_0, pD0_0] hB hlt) ?_
 unfold m_l_markDef at h
 refine sr ?_
 refine ln (nb rfl) rfl (fun b_1 => ?_)
 refine la rfl <| en <| sr <| lf Fld_26_1 rfl rfl rfl <| lo T1_24 0 rfl <| la rfl ?_
 obtain ⟨x1, hx1, h⟩ := bs h
 refine lc (k_call (js := [0, 0]) (R := []) Fun_71 rfl rfl (fun w1 hw ap hl => m_l_markRuleS_ok hw.fro N p0.Rules p1 ph0_0 ap.nd hl hx1)) rfl (fun v1 Φ_1 F1 q1 => ?_)
 obtain ⟨ap1, fr1, D1, rfl, rfl, h1⟩ := q1
 refine la rfl <| en <| sr <| la rfl <| la rfl <| en ?_
 refine WT.ret Tryz.func29 (resOk.one rfl) (fun w1 hw => ?_)
 cases h
 refine postG_of_St (js := [0, 0]) hw rfl ⟨D1, rfl, rfl, h1⟩
theorem m_l_FnExactAllMatches_ok {Φ : Hp} {w : World} (hΦ : In Φ w) (N : Nat) (p0 : TDef) (p1 : TStore) {pv0_0 pv1_0 : Value} {pG0_0 pG1_0 : List Nat} (ph0_0 : RSl RTRule 5 Φ pG0_0 pv0_0 p0.Rules) (ph1_0 : RSl RTItem 3 Φ pG1_0 pv1_0 p1.Items) {r : Bool} (h : m_l_FnExactAllMatches N p0 p1 = some r) :
  Calls Tryz.prog 5 [.agg [.string p0.Name, pv0_0].toArray, .agg [pv1_0, .int .i64 p1.Next].toArray].toArray w (Post (.bool r) w) := by
 refine enter Tryz.func5 rfl Tryz.ntmps5 rfl (St.start0 hΦ) ?_
 have pa0_0 := Old.mk hΦ ph0_0.kn (Dj.empty _)
 have pa1_0 := Old.mk hΦ ph1_0.kn (Dj.empty _)
 unfold m_l_FnExactAllMatches at h
 refine sr ?_
 refine ln (nb rfl) rfl (fun b_1 => ?_)
 refine ln (nb rfl) rfl (fun b_2 => ?_)
 refine la rfl <| en <| sr <| la rfl <| en <| sr <| ld2 Tn_68 1 rfl <| la rfl ?_
 obtain ⟨x1, hx1, h⟩ := bs h
 refine lp (p_call Fun_26 rfl (fun w1 hw => m_l_szDef_ok hw.fro N p0 1048576 ph0_0 hx1)) rfl <| la rfl <| en <| sq <| sr <| la rfl <| la rfl <| en ?_
 refine cdh rfl h (fun c1 h => ?_) (fun c1 h => ?_)
 ·refine sr <| la rfl <| en ?_
  refine WT.ret Tryz.func5 (resOk.one rfl) (fun w1 hw => ?_)
  cases h
  exact post_of_St hw
 refine WT.skip <| sr <| ld2 Tn_54 0 rfl <| la rfl ?_
 obtain ⟨x2, hx2, h⟩ := bs h
 refine lp (p_call Fun_15 rfl (fun w1 hw => m_l_szStore_ok hw.fro N p1 x1 ph1_0 hx2)) rfl <| la rfl <| en <| sq <| sr <| la rfl <| la rfl <| en ?_
 refine cdh rfl h (fun c2 h => ?_) (fun c2 h => ?_)
 ·refine sr <| la rfl <| en ?_
  refine WT.ret Tryz.func5 (resOk.one rfl) (fun w1 hw => ?_)
  cases h
  exact post_of_St hw
 refine WT.skip <| sq <| WT.mix (Kn Φ [] [(b_2, .cells #[pv1_0, .int .i64 p1.Next] 54 (0, 0)), (b_1, .cells #[.string p0.Name, pv0_0] 68 (0, 0))]) (fun _ => true) mixed (fun _ h => h.drew) <| mq 0 rfl (by kernel_rfl) (kn Kf.nil (ai2 0 1 rfl rfl)) (q_loadN Tn_68 rfl (fun w1 hw => hw.rgO (i := 1) rfl 0 2 [.string p0.Name, pv0_0] rfl) rfl) rfl <| mq 2 rfl (by kernel_rfl) (kn Kf.nil (ai2 0 1 rfl rfl)) (q_loadN Tn_54 rfl (fun w1 hw => hw.rgO (i := 0) rfl 0 2 [pv1_0, .int .i64 p1.Next] rfl) rfl) rfl ?_
 obtain ⟨x3, hx3, h⟩ := bs h
 refine WM.one 1 (by kernel_rfl) (mc rfl (fun _ v Φx D w1 hq hw => Kn.of Kf.nil (ai2 0 1 rfl rfl) hw) (k_call (js := []) (R := []) Fun_27 rfl rfl (fun w1 hw ap hl => m_l_toDef_ok hw.fro N p0 ph0_0  hx3)) rfl (fun v1 Φ_1 F1 q1 => ?_))
 obtain ⟨ap1, fr1, v2, D1, rfl, rfl, h1⟩ := q1
 replace ph0_0 := ph0_0.frame RTRule.lasts fr1 (ap1.o pa0_0)
 replace ph1_0 := ph1_0.frame RTItem.lasts fr1 (ap1.o pa1_0)
 obtain ⟨x4, hx4, h⟩ := bs h
 refine WM.one 3 (by kernel_rfl) (mc rfl (fun _ v Φx D w1 hq hw => Kn.of Kf.nil (ai2 0 1 rfl rfl) hw) (k_call (js := []) (R := [ob v2, D1]) Fun_18 rfl rfl (fun w1 hw ap hl => m_l_toStore_ok hw.fro N p1 ph1_0  hx4)) rfl (fun v3 Φ_2 F2 q2 => ?_))
 obtain ⟨ap2, fr2, v4, D2, rfl, rfl, h2⟩ := q2
 replace ph0_0 := ph0_0.frame RTRule.lasts fr2 (ap2.o pa0_0)
 replace ph1_0 := ph1_0.frame RTItem.lasts fr2 (ap2.o pa1_0)
 replace h1 := h1.frame OTRule.lasts fr2 (ap2.r (i := 0) rfl) (ap2.r (i := 1) rfl)
 obtain ⟨x5, hx5, h⟩ := bs h
 refine WM.one 4 (by kernel_rfl) (mc rfl (fun _ v Φx D w1 hq hw => Kn.of Kf.nil (ai2 0 1 rfl rfl) hw) (k_call (js := []) (R := [ob v4, D2, ob v2, D1]) Fun_13 rfl rfl (fun w1 hw ap hl => m_s_AllMatches_ok hw.fro N x3 x4 (h1.rslG OTRule.gives) (h2.rslG OTItem.gives)  hx5)) rfl (fun v5 Φ_3 F3 q3 => ?_))
 obtain ⟨ap3, fr3, v6, D3, X1, rfl, rfl, h3, i1⟩ := q3
 replace ph0_0 := ph0_0.frame RTRule.lasts fr3 (ap3.o pa0_0)
 replace ph1_0 := ph1_0.frame RTItem.lasts fr3 (ap3.o pa1_0)
 refine ma 5 rfl (by kernel_rfl) (kn Kf.nil (ai2 0 1 rfl rfl)) rfl <| WM.nil (by kernel_rfl) <| sr <| ld2 Tn_68 1 rfl ?_
 obtain ⟨x7, hx6, h⟩ := bs h
 refine lc (k_call (js := []) (R := [ob v5, X1, ob v4, D2, ob v2, D1]) Fun_27 rfl rfl (fun w1 hw ap hl => m_l_toDef_ok hw.fro N p0 ph0_0  hx6)) rfl (fun v7 Φ_4 F4 q4 => ?_)
 obtain ⟨ap4, fr4, v8, D4, rfl, rfl, h4⟩ := q4
 replace ph0_0 := ph0_0.frame RTRule.lasts fr4 (ap4.o pa0_0)
 replace ph1_0 := ph1_0.frame RTItem.lasts fr4 (ap4.o pa1_0)
 replace h3 := h3.frame RTMatch.lasts fr4 (ap4.r (i := 0) rfl) (Dj.sub (ap4.r (i := 1) rfl) i1)
 refine ln (nz Zr_26) rfl (fun b_3 => ?_)
 refine soN 0 Sz_26 rfl ⟨rfl, h4.one, trivial⟩ rfl ?_
 refine en <| sr <| ld2 Tn_54 1 rfl ?_
 obtain ⟨x8, hx7, h⟩ := bs h
 refine lc (k_call (js := []) (R := [ob v8, D4, ob v5, X1, ob v4, D2, ob v2, D1]) Fun_18 rfl rfl (fun w1 hw ap hl => m_l_toStore_ok hw.fro N p1 ph1_0  hx7)) rfl (fun v9 Φ_5 F5 q5 => ?_)
 obtain ⟨ap5, fr5, v10, D5, rfl, rfl, h5⟩ := q5
 replace ph0_0 := ph0_0.frame RTRule.lasts fr5 (ap5.o pa0_0)
 replace ph1_0 := ph1_0.frame RTItem.lasts fr5 (ap5.o pa1_0)
 replace h3 := h3.frame RTMatch.lasts fr5 (ap5.r (i := 2) rfl) (Dj.sub (ap5.r (i := 3) rfl) i1)
 replace h4 := h4.frame OTRule.lasts fr5 (ap5.r (i := 0) rfl) (ap5.r (i := 1) rfl)
 refine ln (nz Zr_29) rfl (fun b_4 => ?_)
 refine soN 0 Sz_29 rfl ⟨h5.one, rfl, trivial⟩ rfl ?_
 refine en <| sr <| ld2 Tn_26 1 rfl <| ld2 Tn_29 0 rfl ?_
 obtain ⟨x9, hx8, h⟩ := bs h
 refine lc (k_call (js := []) (R := [ob v10, D5, ob v8, D4, ob v5, X1, ob v4, D2, ob v2, D1]) Fun_8 rfl rfl (fun w1 hw ap hl => m_i_AllMatches_ok hw.fro N x7 x8 (h4.rslG OTRule.gives) (h5.rslG OTItem.gives)  hx8)) rfl (fun v11 Φ_6 F6 q6 => ?_)
 obtain ⟨ap6, fr6, v12, D6, rfl, rfl, h6⟩ := q6
 replace ph0_0 := ph0_0.frame RTRule.lasts fr6 (ap6.o pa0_0)
 replace ph1_0 := ph1_0.frame RTItem.lasts fr6 (ap6.o pa1_0)
 replace h3 := h3.frame RTMatch.lasts fr6 (ap6.r (i := 4) rfl) (Dj.sub (ap6.r (i := 5) rfl) i1)
 replace h4 := h4.frame OTRule.lasts fr6 (ap6.r (i := 2) rfl) (ap6.r (i := 3) rfl)
 replace h5 := h5.frame OTItem.lasts fr6 (ap6.r (i := 0) rfl) (ap6.r (i := 1) rfl)
 refine la rfl <| en <| sq <| sr <| la rfl <| la rfl ?_
 obtain ⟨x10, hx9, h⟩ := bs h
 refine lp (p_call Fun_19 rfl (fun w1 hw => m_l_eqMatchS_ok hw.fro N x9 x5 (h6.rslG OTMatch.gives) h3.rsl hx9)) rfl <| la rfl <| en ?_
 refine cdh rfl h (fun c3 h => ?_) (fun c3 h => ?_)
 ·refine sr <| la rfl <| en ?_
  refine WT.ret Tryz.func5 (resOk.one rfl) (fun w1 hw => ?_)
  cases h
  exact post_of_St hw
 refine WT.skip <| sq <| sq <| WT.mix (Kn Φ_6 [] [(b_4, .cells #[v10, .int .i64 x8.Next] 29 (0, 0)), (b_3, .cells #[.string x7.Name, v8] 26 (0, 0)), (b_2, .cells #[pv1_0, .int .i64 p1.Next] 54 (0, 0)), (b_1, .cells #[.string p0.Name, pv0_0] 68 (0, 0))]) (fun _ => true) mixed (fun _ h => h.drew) <| mq 0 rfl (by kernel_rfl) (kn Kf.nil (AllIn.mem ⟨gM 0 rfl, gM 1 rfl, gM 2 rfl, gM 3 rfl, trivial⟩)) (q_loadN Tn_26 rfl (fun w1 hw => hw.rgO (i := 1) rfl 0 2 [.string x7.Name, v8] rfl) rfl) rfl ?_
 refine mq 1 rfl (by kernel_rfl) (kn Kf.nil (AllIn.mem ⟨gM 0 rfl, gM 1 rfl, gM 2 rfl, gM 3 rfl, trivial⟩)) (q_loadN Tn_68 rfl (fun w1 hw => hw.rgO (i := 3) rfl 0 2 [.string p0.Name, pv0_0] rfl) rfl) rfl ?_
 obtain ⟨x11, hx10, h⟩ := bs h
 refine WM.one 2 (by kernel_rfl) (mc rfl (fun _ v Φx D w1 hq hw => Kn.of Kf.nil (AllIn.mem ⟨gM 0 rfl, gM 1 rfl, gM 2 rfl, gM 3 rfl, trivial⟩) hw) (k_call (js := []) (R := [ob v11, D6, ob v10, D5, ob v8, D4, ob v5, X1, ob v4, D2, ob v2, D1]) Fun_27 rfl rfl (fun w1 hw ap hl => m_l_toDef_ok hw.fro N p0 ph0_0  hx10)) rfl (fun v13 Φ_7 F7 q7 => ?_))
 obtain ⟨ap7, fr7, v14, D7, rfl, rfl, h7⟩ := q7
 replace ph0_0 := ph0_0.frame RTRule.lasts fr7 (ap7.o pa0_0)
 replace ph1_0 := ph1_0.frame RTItem.lasts fr7 (ap7.o pa1_0)
 replace h3 := h3.frame RTMatch.lasts fr7 (ap7.r (i := 6) rfl) (Dj.sub (ap7.r (i := 7) rfl) i1)
 replace h4 := h4.frame OTRule.lasts fr7 (ap7.r (i := 4) rfl) (ap7.r (i := 5) rfl)
 replace h5 := h5.frame OTItem.lasts fr7 (ap7.r (i := 2) rfl) (ap7.r (i := 3) rfl)
 replace h6 := h6.frame OTMatch.lasts fr7 (ap7.r (i := 0) rfl) (ap7.r (i := 1) rfl)
 obtain ⟨x12, hx11, h⟩ := bs h
 refine WM.one 3 (by kernel_rfl) (mp rfl (fun _ w1 hw => Kn.of Kf.nil (AllIn.mem ⟨gM 0 rfl, gM 1 rfl, gM 2 rfl, gM 3 rfl, trivial⟩) hw) (p_call Fun_28 rfl (fun w1 hw => m_l_eqDef_ok hw.fro N x7 x11 (h4.rslG OTRule.gives) (h7.rslG OTRule.gives) hx11)) rfl ?_)
 refine ma 4 rfl (by kernel_rfl) (kn Kf.nil (AllIn.mem ⟨gM 0 rfl, gM 1 rfl, gM 2 rfl, gM 3 rfl, trivial⟩)) rfl <| WM.nil (by kernel_rfl) ?_
 refine cdh rfl h (fun c4 h => ?_) (fun c4 h => ?_)
 ·refine sr <| la rfl <| en ?_
  refine WT.ret Tryz.func5 (resOk.one rfl) (fun w1 hw => ?_)
  cases h
  exact post_of_St hw
 refine WT.skip <| sq <| sq <| WT.mix (Kn Φ_7 [] [(b_4, .cells #[v10, .int .i64 x8.Next] 29 (0, 0)), (b_3, .cells #[.string x7.Name, v8] 26 (0, 0)), (b_2, .cells #[pv1_0, .int .i64 p1.Next] 54 (0, 0)), (b_1, .cells #[.string p0.Name, pv0_0] 68 (0, 0))]) (fun _ => true) mixed (fun _ h => h.drew) <| mq 0 rfl (by kernel_rfl) (kn Kf.nil (AllIn.mem ⟨gM 0 rfl, gM 1 rfl, gM 2 rfl, gM 3 rfl, trivial⟩)) (q_loadN Tn_29 rfl (fun w1 hw => hw.rgO (i := 0) rfl 0 2 [v10, .int .i64 x8.Next] rfl) rfl) rfl ?_
 refine mq 1 rfl (by kernel_rfl) (kn Kf.nil (AllIn.mem ⟨gM 0 rfl, gM 1 rfl, gM 2 rfl, gM 3 rfl, trivial⟩)) (q_loadN Tn_54 rfl (fun w1 hw => hw.rgO (i := 2) rfl 0 2 [pv1_0, .int .i64 p1.Next] rfl) rfl) rfl ?_
 obtain ⟨x13, hx12, h⟩ := bs h
 refine WM.one 2 (by kernel_rfl) (mc rfl (fun _ v Φx D w1 hq hw => Kn.of Kf.nil (AllIn.mem ⟨gM 0 rfl, gM 1 rfl, gM 2 rfl, gM 3 rfl, trivial⟩) hw) (k_call (js := []) (R := [ob v14, D7, ob v11, D6, ob v10, D5, ob v8, D4, ob v5, X1, ob v4, D2, ob v2, D1]) Fun_18 rfl rfl (fun w1 hw ap hl => m_l_toStore_ok hw.fro N p1 ph1_0  hx12)) rfl (fun v15 Φ_8 F8 q8 => ?_))
 obtain ⟨ap8, fr8, v16, D8, rfl, rfl, h8⟩ := q8
 replace ph0_0 := ph0_0.frame RTRule.lasts fr8 (ap8.o pa0_0)
 replace ph1_0 := ph1_0.frame RTItem.lasts fr8 (ap8.o pa1_0)
 replace h3 := h3.frame RTMatch.lasts fr8 (ap8.r (i := 8) rfl) (Dj.sub (ap8.r (i := 9) rfl) i1)
 replace h4 := h4.frame OTRule.lasts fr8 (ap8.r (i := 6) rfl) (ap8.r (i := 7) rfl)
 replace h5 := h5.frame OTItem.lasts fr8 (ap8.r (i := 4) rfl) (ap8.r (i := 5) rfl)
 replace h6 := h6.frame OTMatch.lasts fr8 (ap8.r (i := 2) rfl) (ap8.r (i := 3) rfl)
 obtain ⟨x14, hx13, h⟩ := bs h
 refine WM.one 3 (by kernel_rfl) (mp rfl (fun _ w1 hw => Kn.of Kf.nil (AllIn.mem ⟨gM 0 rfl, gM 1 rfl, gM 2 rfl, gM 3 rfl, trivial⟩) hw) (p_call Fun_21 rfl (fun w1 hw => m_l_eqStore_ok hw.fro N x8 x13 (h5.rslG OTItem.gives) (h8.rslG OTItem.gives) hx13)) rfl ?_)
 refine ma 4 rfl (by kernel_rfl) (kn Kf.nil (AllIn.mem ⟨gM 0 rfl, gM 1 rfl, gM 2 rfl, gM 3 rfl, trivial⟩)) rfl <| WM.nil (by kernel_rfl) ?_
 refine cdh rfl h (fun c5 h => ?_) (fun c5 h => ?_)
 ·refine sr <| la rfl <| en ?_
  refine WT.ret Tryz.func5 (resOk.one rfl) (fun w1 hw => ?_)
  cases h
  exact post_of_St hw
 refine WT.skip <| sr <| la rfl <| en <| sr <| ld2 Tn_26 1 rfl <| la rfl ?_
 obtain ⟨x15, hx14, h⟩ := bs h
 refine lc (k_call (js := [8, 8]) (R := [ob v16, D8, ob v14, D7, ob v11, D6, ob v10, D5, ob v5, X1, ob v4, D2, ob v2, D1]) Fun_29 rfl rfl (fun w1 hw ap hl => m_l_markDef_ok hw.fro N x7 1 h4 ap.nd hl hx14)) rfl (fun v17 Φ_9 F9 q9 => ?_)
 obtain ⟨ap9, fr9, D9, rfl, rfl, h9⟩ := q9
 replace ph0_0 := ph0_0.frame RTRule.lasts fr9 (ap9.o pa0_0)
 replace ph1_0 := ph1_0.frame RTItem.lasts fr9 (ap9.o pa1_0)
 replace h3 := h3.frame RTMatch.lasts fr9 (ap9.r (i := 8) rfl) (Dj.sub (ap9.r (i := 9) rfl) i1)
 replace h5 := h5.frame OTItem.lasts fr9 (ap9.r (i := 6) rfl) (ap9.r (i := 7) rfl)
 replace h6 := h6.frame OTMatch.lasts fr9 (ap9.r (i := 4) rfl) (ap9.r (i := 5) rfl)
 refine la rfl <| en <| sr <| ld2 Tn_29 0 rfl <| la rfl ?_
 obtain ⟨x16, hx15, h⟩ := bs h
 refine lc (k_call (js := [8, 8]) (R := [ob v8, D9, ob v16, D8, ob v14, D7, ob v11, D6, ob v5, X1, ob v4, D2, ob v2, D1]) Fun_23 rfl rfl (fun w1 hw ap hl => m_l_markStore_ok hw.fro N x8 x15.1 h5 ap.nd hl hx15)) rfl (fun v18 Φ_10 F10 q10 => ?_)
 obtain ⟨ap10, fr10, D10, rfl, rfl, h10⟩ := q10
 replace ph0_0 := ph0_0.frame RTRule.lasts fr10 (ap10.o pa0_0)
 replace ph1_0 := ph1_0.frame RTItem.lasts fr10 (ap10.o pa1_0)
 replace h3 := h3.frame RTMatch.lasts fr10 (ap10.r (i := 8) rfl) (Dj.sub (ap10.r (i := 9) rfl) i1)
 replace h6 := h6.frame OTMatch.lasts fr10 (ap10.r (i := 6) rfl) (ap10.r (i := 7) rfl)
 refine la rfl <| en <| sq <| sr <| la rfl <| la rfl <| la rfl ?_
 obtain ⟨b1, hb_1, h⟩ := bs h
 refine WL.cutN 5 [(63, .bool b1), (2, .pointer (some ⟨b_1, 0, none⟩)), (3, .pointer (some ⟨b_2, 0, none⟩)), (6, v5), (9, v11)] ?_ (fun K => ?_)
 rotate_left
 ·refine spl 58 rfl hb_1 (fun c6 hb_1 => ?_) (fun c6 hb_1 => ?_)
  ·refine la rfl <| la rfl <| la rfl <| la rfl <| la rfl ?_
   cases hb_1
   exact kk K ⟨rfl, rfl, rfl, rfl, rfl, trivial⟩
  ·refine ly rfl rfl <| la rfl <| ly rfl rfl <| la rfl <| ly rfl rfl ?_
   obtain ⟨x17, hx16, hb_1⟩ := bs hb_1
   refine lp (p_call Fun_19 rfl (fun w1 hw => m_l_eqMatchS_ok hw.fro N x9 x5 (h6.rslG OTMatch.gives) h3.rsl hx16)) rfl <| ly rfl rfl <| la rfl <| la rfl ?_
   cases hb_1
   exact kk K ⟨rfl, rfl, rfl, rfl, rfl, trivial⟩
 refine en ?_
 refine cdh rfl h (fun c7 h => ?_) (fun c7 h => ?_)
 ·refine sr <| la rfl <| en ?_
  refine WT.ret Tryz.func5 (resOk.one rfl) (fun w1 hw => ?_)
  cases h
  exact post_of_St hw
 refine WT.skip <| sr <| la rfl <| en <| sr <| la rfl <| la rfl ?_
 obtain ⟨x18, hx17, h⟩ := bs h
 refine lc (k_call (js := [8, 8]) (R := [ob v10, D10, ob v8, D9, ob v16, D8, ob v14, D7, ob v5, X1, ob v4, D2, ob v2, D1]) Fun_24 rfl rfl (fun w1 hw ap hl => m_l_markMatchS_ok hw.fro N x9 1 h6 ap.nd hl hx17)) rfl (fun v19 Φ_11 F11 q11 => ?_)
 obtain ⟨ap11, fr11, D11, rfl, rfl, h11⟩ := q11
 replace ph0_0 := ph0_0.frame RTRule.lasts fr11 (ap11.o pa0_0)
 replace ph1_0 := ph1_0.frame RTItem.lasts fr11 (ap11.o pa1_0)
 replace h3 := h3.frame RTMatch.lasts fr11 (ap11.r (i := 8) rfl) (Dj.sub (ap11.r (i := 9) rfl) i1)
 refine la rfl <| en <| sr <| la rfl <| en <| sr <| la rfl <| la rfl ?_
 obtain ⟨x19, hx18, h⟩ := bs h
 refine lp (p_call Fun_25 rfl (fun w1 hw => m_l_heldMatchS_ok hw.fro N x18.2 1 (h11.rslG OTMatch.gives) hx18)) rfl <| la rfl <| en <| sq <| sr <| la rfl <| la rfl <| en ?_
 refine cdh rfl h (fun c8 h => ?_) (fun c8 h => ?_)
 ·refine sr <| la rfl <| en ?_
  refine WT.ret Tryz.func5 (resOk.one rfl) (fun w1 hw => ?_)
  cases h
  exact post_of_St hw
 refine WT.skip <| sq <| sr <| la rfl <| la rfl <| la rfl <| en ?_
 refine cdh rfl h (fun c9 h => ?_) (fun c9 h => ?_)
 ·refine sr <| la rfl <| en ?_
  refine WT.ret Tryz.func5 (resOk.one rfl) (fun w1 hw => ?_)
  cases h
  exact post_of_St hw
 refine WT.skip <| sq <| WT.mix (Kn Φ_11 [] [(b_4, .cells #[v10, .int .i64 x8.Next] 29 (0, 0)), (b_3, .cells #[.string x7.Name, v8] 26 (0, 0)), (b_2, .cells #[pv1_0, .int .i64 p1.Next] 54 (0, 0)), (b_1, .cells #[.string p0.Name, pv0_0] 68 (0, 0))]) (fun _ => true) mixed (fun _ h => h.drew) <| mq 0 rfl (by kernel_rfl) (kn Kf.nil (AllIn.mem ⟨gM 0 rfl, gM 1 rfl, gM 2 rfl, gM 3 rfl, trivial⟩)) (q_loadN Tn_68 rfl (fun w1 hw => hw.rgO (i := 3) rfl 0 2 [.string p0.Name, pv0_0] rfl) rfl) rfl ?_
 refine mq 2 rfl (by kernel_rfl) (kn Kf.nil (AllIn.mem ⟨gM 0 rfl, gM 1 rfl, gM 2 rfl, gM 3 rfl, trivial⟩)) (q_loadN Tn_54 rfl (fun w1 hw => hw.rgO (i := 2) rfl 0 2 [pv1_0, .int .i64 p1.Next] rfl) rfl) rfl ?_
 obtain ⟨x20, hx19, h⟩ := bs h
 refine WM.one 1 (by kernel_rfl) (mc rfl (fun _ v Φx D w1 hq hw => Kn.of Kf.nil (AllIn.mem ⟨gM 0 rfl, gM 1 rfl, gM 2 rfl, gM 3 rfl, trivial⟩) hw) (k_call (js := []) (R := [ob v11, D11, ob v10, D10, ob v8, D9, ob v16, D8, ob v14, D7, ob v5, X1, ob v4, D2, ob v2, D1]) Fun_27 rfl rfl (fun w1 hw ap hl => m_l_toDef_ok hw.fro N p0 ph0_0  hx19)) rfl (fun v20 Φ_12 F12 q12 => ?_))
 obtain ⟨ap12, fr12, v21, D12, rfl, rfl, h12⟩ := q12
 replace ph1_0 := ph1_0.frame RTItem.lasts fr12 (ap12.o pa1_0)
 replace h3 := h3.frame RTMatch.lasts fr12 (ap12.r (i := 10) rfl) (Dj.sub (ap12.r (i := 11) rfl) i1)
 replace h11 := h11.frame OTMatch.lasts fr12 (ap12.r (i := 0) rfl) (ap12.r (i := 1) rfl)
 obtain ⟨x21, hx20, h⟩ := bs h
 refine WM.one 3 (by kernel_rfl) (mc rfl (fun _ v Φx D w1 hq hw => Kn.of Kf.nil (AllIn.mem ⟨gM 0 rfl, gM 1 rfl, gM 2 rfl, gM 3 rfl, trivial⟩) hw) (k_call (js := []) (R := [ob v21, D12, ob v11, D11, ob v10, D10, ob v8, D9, ob v16, D8, ob v14, D7, ob v5, X1, ob v4, D2, ob v2, D1]) Fun_18 rfl rfl (fun w1 hw ap hl => m_l_toStore_ok hw.fro N p1 ph1_0  hx20)) rfl (fun v22 Φ_13 F13 q13 => ?_))
 obtain ⟨ap13, fr13, v23, D13, rfl, rfl, h13⟩ := q13
 replace h12 := h12.frame OTRule.lasts fr13 (ap13.r (i := 0) rfl) (ap13.r (i := 1) rfl)
 replace h3 := h3.frame RTMatch.lasts fr13 (ap13.r (i := 12) rfl) (Dj.sub (ap13.r (i := 13) rfl) i1)
 replace h11 := h11.frame OTMatch.lasts fr13 (ap13.r (i := 2) rfl) (ap13.r (i := 3) rfl)
 obtain ⟨x22, hx21, h⟩ := bs h
 refine WM.one 4 (by kernel_rfl) (mc rfl (fun _ v Φx D w1 hq hw => Kn.of Kf.nil (AllIn.mem ⟨gM 0 rfl, gM 1 rfl, gM 2 rfl, gM 3 rfl, trivial⟩) hw) (k_call (js := []) (R := [ob v23, D13, ob v21, D12, ob v11, D11, ob v10, D10, ob v8, D9, ob v16, D8, ob v14, D7, ob v5, X1, ob v4, D2, ob v2, D1]) Fun_8 rfl rfl (fun w1 hw ap hl => m_i_AllMatches_ok hw.fro N x20 x21 (h12.rslG OTRule.gives) (h13.rslG OTItem.gives)  hx21)) rfl (fun v24 Φ_14 F14 q14 => ?_))
 obtain ⟨ap14, fr14, v25, D14, rfl, rfl, h14⟩ := q14
 replace h3 := h3.frame RTMatch.lasts fr14 (ap14.r (i := 14) rfl) (Dj.sub (ap14.r (i := 15) rfl) i1)
 replace h11 := h11.frame OTMatch.lasts fr14 (ap14.r (i := 4) rfl) (ap14.r (i := 5) rfl)
 refine ma 5 rfl (by kernel_rfl) (kn Kf.nil (AllIn.mem ⟨gM 0 rfl, gM 1 rfl, gM 2 rfl, gM 3 rfl, trivial⟩)) rfl <| WM.nil (by kernel_rfl) <| sq <| sr <| la rfl <| la rfl ?_
 obtain ⟨x23, hx22, h⟩ := bs h
 refine lp (p_call Fun_19 rfl (fun w1 hw => m_l_eqMatchS_ok hw.fro N x22 x5 (h14.rslG OTMatch.gives) h3.rsl hx22)) rfl <| la rfl <| en ?_
 refine cdh rfl h (fun c10 h => ?_) (fun c10 h => ?_)
 ·refine sr <| la rfl <| en ?_
  refine WT.ret Tryz.func5 (resOk.one rfl) (fun w1 hw => ?_)
  cases h
  exact post_of_St hw
 refine WT.skip <| sr <| la rfl <| en <| sr <| la rfl <| la rfl ?_
 obtain ⟨x24, hx23, h⟩ := bs h
 refine lp (p_call Fun_25 rfl (fun w1 hw => m_l_heldMatchS_ok hw.fro N x18.2 1 (h11.rslG OTMatch.gives) hx23)) rfl <| la rfl <| en <| sq <| sr <| la rfl <| la rfl <| en ?_
 refine cdh rfl h (fun c11 h => ?_) (fun c11 h => ?_)
 ·refine sr <| la rfl <| en ?_
  refine WT.ret Tryz.func5 (resOk.one rfl) (fun w1 hw => ?_)
  cases h
  exact post_of_St hw
 refine WT.skip <| sq <| sr <| la rfl <| la rfl <| la rfl <| en ?_
 refine cdh rfl h (fun c12 h => ?_) (fun c12 h => ?_)
 ·refine sr <| la rfl <| en ?_
  refine WT.ret Tryz.func5 (resOk.one rfl) (fun w1 hw => ?_)
  cases h
  exact post_of_St hw
 refine WT.skip <| sr <| la rfl <| en ?_
 refine WT.ret Tryz.func5 (resOk.one rfl) (fun w1 hw => ?_)
 cases h
 exact post_of_St hw
end Go.Proofs.YtelchcokfcdndaaGreat
