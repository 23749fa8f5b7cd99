/- Printed by a program of ours: each Go function computes its Lean function. -/
import Derived.Test.YtelchcokfcdndaaGreatProg
import Derived.Test.YtelchcokfcdndaaGreatWAllMatchesWalk3
namespace Go.Proofs.YtelchcokfcdndaaGreat
open Eng
open Go.RowKit (Below)
set_option linter.unusedVariables false
set_option linter.unusedSimpArgs false

set_option maxRecDepth 100000
set_option maxHeartbeats 1000000
theorem m_i_addVars_ok {Φ : Hp} {w : World} (hΦ : In Φ w) (N : Nat) (p0 : (List ByteArray)) (p1 : (List TArg)) {pv0 pv1 : Value} {pG1 : List Nat} (ph0 : OSl RS 9 1 Φ [] pv0 p0) (ph1 : RSl RTArg 5 Φ pG1 pv1 p1) (pd1 : Dj pG1 [ob pv0].flatten) (hB : [ob pv0].flatten.Nodup) (hlt : ∀ k ∈ [ob pv0].flatten, k < w.heap.size) {r : (List ByteArray)} (h : m_i_addVars N p0 p1 = some r) :
  Calls Tryz.prog 147 [pv0, pv1].toArray w (PostG Φ w [ob pv0].flatten (fun Φ' Fs v => ∃ (sr_0_0 : Value), v = sr_0_0 ∧ Fs = [ob sr_0_0] ∧ OSl RS 9 1 Φ' [] sr_0_0 r)) := by
 refine enter Tryz.func147 rfl Tryz.ntmps147 rfl (St.start hΦ [ob pv0] hB hlt) ?_
 have pa1 := Old.mk hΦ ph1.kn pd1
 revert pa1
 generalize hb0 : (⟨w, [ob pv0].flatten, Φ⟩ : Base) = w0
 intro pa1
 unfold m_i_addVars at h
 refine sr <| la rfl <| en <| sq <| sr <| la rfl <| lq (q_lenR Sl_169 rfl rfl ph1) rfl <| la rfl <| en <| blk ?_
 refine loop_in (σ := Hp × (List ByteArray) × Value × Int) (fun s => [(0, s.2.2.1), (7, pv1), (8, .int .i64 (p1.length : Int)), (9, .int .i64 s.2.2.2)]) (fun s => St w0 s.1 [] [ob s.2.2.1]) (fun m s => m_i_addVars_l1 N p1 m s.2.1 s.2.2.2 = some r ∧ (OSl RS 9 1 s.1 [] s.2.2.1 s.2.1) ∧ (RSl RTArg 5 s.1 pG1 pv1 p1)) (Φ, p0, pv0, 0) N ⟨h, ph0, ph1⟩ ⟨rfl, rfl, rfl, rfl, trivial⟩ (fun w1 hw => (hw.sel (js := [0]) rfl).selO (js := []) rfl) (fun s hm => none_ne hm.1) (fun n1 ih1 s hm => ?_)
 obtain ⟨Φ_1, s1, u1, s2⟩ := s
 obtain ⟨h, k1, ph1⟩ := hm
 dsimp only at h k1 ph1 ⊢
 unfold m_i_addVars_l1 at h
 refine sr <| la rfl <| en <| sq ?_
 refine cdh rfl h (fun c1 h => ?_) (fun c1 h => ?_)
 ·refine WT.skip <| sq <| blk <| sr ?_
  obtain ⟨x1, hx1, h⟩ := bs h
  obtain ⟨cs1, F1, -, g1, hb1, hs1, r1⟩ := ph1.el (idx_some hx1).2.2
  obtain ⟨rfl, -⟩ := r1
  refine lq (q_indexAddr Sl_169 rfl rfl ph1 hx1) rfl <| lg5 0 Tn_137 g1 rfl rfl ?_
  refine ln (nz Zr_137) rfl (fun b_1 => ?_)
  refine soN 0 Sz_137 rfl ⟨rfl, rfl, rfl, rfl, rfl, trivial⟩ rfl ?_
  refine en <| sr <| lf Fld_137_0 rfl rfl rfl <| lo T1_3 0 rfl <| la rfl <| en ?_
  refine cdh rfl h (fun c2 h => ?_) (fun c2 h => ?_)
  ·refine rgn <| la rfl <| lf Fld_137_1 rfl rfl rfl <| lo T1_9 0 rfl ?_
   obtain ⟨x2, hx2, h⟩ := bs h
   refine lc (k_call (js := [0]) (R := []) Fun_183 rfl rfl (fun w1 hw ap hl => m_i_addOnce_ok hw.fro N s1 x1.S k1 ap.nd hl hx2)) rfl (fun v1 Φ_2 F2 q1 => ?_)
   obtain ⟨ap1, fr1, v2, rfl, rfl, h1⟩ := q1
   replace ph1 := ph1.frame RTArg.lasts fr1 (ap1.o pa1)
   refine la rfl <| en <| ib <| rgn <| la rfl <| la rfl <| en ?_
   exact lback (ih1 (Φ_2, x2, v1, IntKind.i64.wrap (s2 + 1)) ⟨h, h1, ph1⟩) ⟨rfl, rfl, rfl, rfl, trivial⟩ (fun w1 hw => (hw.sel (js := [0]) rfl).selO (js := []) rfl)
  refine WT.skip <| ib <| rgn <| la rfl <| la rfl <| en ?_
  exact lback (ih1 (Φ_1, s1, u1, IntKind.i64.wrap (s2 + 1)) ⟨h, k1, ph1⟩) ⟨rfl, rfl, rfl, rfl, trivial⟩ (fun w1 hw => (hw.sel (js := [0]) rfl).selO (js := []) rfl)
 refine xt rfl <| sr <| la rfl <| la rfl <| en ?_
 refine WT.ret Tryz.func147 (resOk.one rfl) (fun w1 hw => ?_)
 subst hb0
 cases h
 refine postG_of_St (js := [0]) hw rfl ⟨u1, rfl, rfl, k1⟩
theorem m_i_PosVars_ok {Φ : Hp} {w : World} (hΦ : In Φ w) (N : Nat) (p0 : TRule) {pv0_0 pv0_1 pv0_2 : Value} {pG0_0 pG0_1 pG0_2 : List Nat} (ph0_0 : RSl RTPat 3 Φ pG0_0 pv0_0 p0.Pats) (ph0_1 : RSl RTCond 11 Φ pG0_1 pv0_1 p0.Conds) (ph0_2 : RSl RTAct 5 Φ pG0_2 pv0_2 p0.Acts) {r : (List ByteArray)} (h : m_i_PosVars N p0 = some r) :
  Calls Tryz.prog 95 [.agg [.string p0.Name, .int .i64 p0.Sal, pv0_0, pv0_1, pv0_2].toArray].toArray w (PostG Φ w [] (fun Φ' Fs v => ∃ (sr_0_0 : Value), v = sr_0_0 ∧ Fs = [ob sr_0_0] ∧ OSl RS 9 1 Φ' [] sr_0_0 r)) := by
 refine enter Tryz.func95 rfl Tryz.ntmps95 rfl (St.start0 hΦ) ?_
 have pa0_0 := Old.mk hΦ ph0_0.kn (Dj.empty _)
 revert pa0_0
 generalize hb0 : (⟨w, [], Φ⟩ : Base) = w0
 intro pa0_0
 unfold m_i_PosVars at h
 refine sr ?_
 refine ln (nb rfl) rfl (fun b_1 => ?_)
 refine la rfl <| en <| sr <| la rfl <| en <| sq <| sr <| lf Fld_40_2 rfl rfl rfl <| lo T1_36 0 rfl <| lq (q_lenR Sl_36 rfl rfl ph0_0) rfl <| la rfl <| en <| blk <| WT.loop <| WT.conv (S' := St w0 Φ [(b_1, .cells #[.string p0.Name, .int .i64 p0.Sal, pv0_0, pv0_1, pv0_2] 40 (0, 0))] (ob (.slice none 0 0) :: [])) (fun w1 hw => hw.addNil) ?_
 have k1 := OSl.nil RS 9 1 Φ
 refine WT.mono (l' := [(3, (.slice none 0 0)), (7, pv0_0), (8, .int .i64 (p0.Pats.length : Int)), (9, .int .i64 0)]) (S' := St w0 Φ [] [ob (.slice none 0 0)]) ⟨rfl, rfl, rfl, rfl, trivial⟩ (fun w1 hw => (hw.sel (js := [0]) rfl).selO (js := []) rfl) ?_
 refine loop_ind (σ := Hp × (List ByteArray) × Value × Int) (fun s => [(3, s.2.2.1), (7, pv0_0), (8, .int .i64 (p0.Pats.length : Int)), (9, .int .i64 s.2.2.2)]) (fun s => St w0 s.1 [] [ob s.2.2.1]) (fun m s => m_i_PosVars_l1 N p0 m s.2.1 s.2.2.2 = some r ∧ (OSl RS 9 1 s.1 [] s.2.2.1 s.2.1) ∧ (RSl RTPat 3 s.1 pG0_0 pv0_0 p0.Pats)) (fun s hm => none_ne (show (none : Option ((List ByteArray))) = some r from hm.1)) (fun n1 ih1 s hm => ?_) N (Φ, ([] : List ByteArray), (.slice none 0 0), 0) ⟨h, k1, ph0_0⟩
 obtain ⟨Φ_1, s1, u1, s2⟩ := s
 obtain ⟨h, k2, ph0_0⟩ := hm
 dsimp only at h k2 ph0_0 ⊢
 unfold m_i_PosVars_l1 at h
 refine sr <| la rfl <| en <| sq ?_
 refine cdh rfl h (fun c1 h => ?_) (fun c1 h => ?_)
 ·refine WT.skip <| sq <| blk <| sr ?_
  obtain ⟨x1, hx1, h⟩ := bs h
  obtain ⟨cs1, F1, -, g1, hb1, hs1, r1⟩ := ph0_0.el (idx_some hx1).2.2
  obtain ⟨v1, G1, rfl, hq1, h1⟩ := r1
  obtain rfl := hq1.symm
  refine lq (q_indexAddr Sl_36 rfl rfl ph0_0 hx1) rfl <| lg3 0 Tn_171 g1 rfl rfl ?_
  refine ln (nz Zr_171) rfl (fun b_2 => ?_)
  refine soN 0 Sz_171 rfl ⟨rfl, h1.one, rfl, trivial⟩ rfl ?_
  refine en <| sr <| lf Fld_171_2 rfl rfl rfl <| lo T1_4 0 rfl <| la rfl <| en ?_
  refine cdh rfl h (fun c2 h => ?_) (fun c2 h => ?_)
  ·refine rgn <| la rfl <| lf Fld_171_1 rfl rfl rfl <| lo T1_169 0 rfl ?_
   obtain ⟨x2, hx2, h⟩ := bs h
   refine lc (k_call (js := [0]) (R := []) Fun_147 rfl rfl (fun w1 hw ap hl => m_i_addVars_ok hw.fro N s1 x1.Args k2 h1 (Dj.sub (ap.o pa0_0) (fun k h => hs1 k h)) ap.nd hl hx2)) rfl (fun v2 Φ_2 F2 q1 => ?_)
   obtain ⟨ap1, fr1, v3, rfl, rfl, h2⟩ := q1
   replace ph0_0 := ph0_0.frame RTPat.lasts fr1 (ap1.o pa0_0)
   refine la rfl <| en <| ib <| rgn <| la rfl <| la rfl <| en ?_
   exact lback (ih1 (Φ_2, x2, v2, IntKind.i64.wrap (s2 + 1)) ⟨h, h2, ph0_0⟩) ⟨rfl, rfl, rfl, rfl, trivial⟩ (fun w1 hw => (hw.sel (js := [0]) rfl).selO (js := []) rfl)
  refine WT.skip <| ib <| rgn <| la rfl <| la rfl <| en ?_
  exact lback (ih1 (Φ_1, s1, u1, IntKind.i64.wrap (s2 + 1)) ⟨h, k2, ph0_0⟩) ⟨rfl, rfl, rfl, rfl, trivial⟩ (fun w1 hw => (hw.sel (js := [0]) rfl).selO (js := []) rfl)
 refine xt rfl <| sr <| la rfl <| la rfl <| en ?_
 refine WT.ret Tryz.func95 (resOk.one rfl) (fun w1 hw => ?_)
 subst hb0
 cases h
 refine postG_of_St (js := [0]) hw rfl ⟨u1, rfl, rfl, k2⟩
theorem m_i_usedVars_ok {Φ : Hp} {w : World} (hΦ : In Φ w) (N : Nat) (p0 : TRule) {pv0_0 pv0_1 pv0_2 : Value} {pG0_0 pG0_1 pG0_2 : List Nat} (ph0_0 : RSl RTPat 3 Φ pG0_0 pv0_0 p0.Pats) (ph0_1 : RSl RTCond 11 Φ pG0_1 pv0_1 p0.Conds) (ph0_2 : RSl RTAct 5 Φ pG0_2 pv0_2 p0.Acts) {r : (List ByteArray)} (h : m_i_usedVars N p0 = some r) :
  Calls Tryz.prog 96 [.agg [.string p0.Name, .int .i64 p0.Sal, pv0_0, pv0_1, pv0_2].toArray].toArray w (PostG Φ w [] (fun Φ' Fs v => ∃ (sr_0_0 : Value), v = sr_0_0 ∧ Fs = [ob sr_0_0] ∧ OSl RS 9 1 Φ' [] sr_0_0 r)) := by
 refine enter Tryz.func96 rfl Tryz.ntmps96 rfl (St.start0 hΦ) ?_
 have pa0_0 := Old.mk hΦ ph0_0.kn (Dj.empty _)
 have pa0_1 := Old.mk hΦ ph0_1.kn (Dj.empty _)
 have pa0_2 := Old.mk hΦ ph0_2.kn (Dj.empty _)
 revert pa0_0 pa0_1 pa0_2
 generalize hb0 : (⟨w, [], Φ⟩ : Base) = w0
 intro pa0_0 pa0_1 pa0_2
 unfold m_i_usedVars at h
 refine sr ?_
 refine ln (nb rfl) rfl (fun b_1 => ?_)
 refine la rfl <| en <| sr <| la rfl <| en <| sq <| sr <| lf Fld_40_3 rfl rfl rfl <| lo T1_37 0 rfl <| lq (q_lenR Sl_37 rfl rfl ph0_1) rfl <| la rfl <| en <| blk <| WT.loop <| WT.conv (S' := St w0 Φ [(b_1, .cells #[.string p0.Name, .int .i64 p0.Sal, pv0_0, pv0_1, pv0_2] 40 (0, 0))] (ob (.slice none 0 0) :: [])) (fun w1 hw => hw.addNil) ?_
 have k1 := OSl.nil RS 9 1 Φ
 refine WT.mono (l' := [(1, .pointer (some ⟨b_1, 0, none⟩)), (3, (.slice none 0 0)), (11, pv0_1), (12, .int .i64 (p0.Conds.length : Int)), (13, .int .i64 0)]) (S' := St w0 Φ [(b_1, .cells #[.string p0.Name, .int .i64 p0.Sal, pv0_0, pv0_1, pv0_2] 40 (0, 0))] [ob (.slice none 0 0)]) ⟨rfl, rfl, rfl, rfl, rfl, trivial⟩ (fun w1 hw => (hw.sel (js := [0]) rfl).selO (js := [0]) rfl) ?_
 refine loop_ind (σ := Hp × (List ByteArray) × Value × Int) (fun s => [(1, .pointer (some ⟨b_1, 0, none⟩)), (3, s.2.2.1), (11, pv0_1), (12, .int .i64 (p0.Conds.length : Int)), (13, .int .i64 s.2.2.2)]) (fun s => St w0 s.1 [(b_1, .cells #[.string p0.Name, .int .i64 p0.Sal, pv0_0, pv0_1, pv0_2] 40 (0, 0))] [ob s.2.2.1]) (fun m s => m_i_usedVars_l1 N p0 m s.2.1 s.2.2.2 = some r ∧ (OSl RS 9 1 s.1 [] s.2.2.1 s.2.1) ∧ (RSl RTPat 3 s.1 pG0_0 pv0_0 p0.Pats) ∧ (RSl RTCond 11 s.1 pG0_1 pv0_1 p0.Conds) ∧ (RSl RTAct 5 s.1 pG0_2 pv0_2 p0.Acts)) (fun s hm => none_ne (show (none : Option ((List ByteArray))) = some r from hm.1)) (fun n1 ih1 s hm => ?_) N (Φ, ([] : List ByteArray), (.slice none 0 0), 0) ⟨h, k1, ph0_0, ph0_1, ph0_2⟩
 obtain ⟨Φ_1, s1, u1, s2⟩ := s
 obtain ⟨h, k2, ph0_0, ph0_1, ph0_2⟩ := hm
 dsimp only at h k2 ph0_0 ph0_1 ph0_2 ⊢
 unfold m_i_usedVars_l1 at h
 refine sr <| la rfl <| en <| sq ?_
 refine cdh rfl h (fun c1 h => ?_) (fun c1 h => ?_)
 ·refine WT.skip <| sq <| blk <| sr ?_
  obtain ⟨x1, hx1, h⟩ := bs h
  obtain ⟨cs1, F1, -, g1, hb1, hs1, r1⟩ := ph0_1.el (idx_some hx1).2.2
  obtain ⟨rfl, -⟩ := r1
  refine lq (q_indexAddr Sl_37 rfl rfl ph0_1 hx1) rfl <| lg11 0 Tn_139 g1 rfl rfl ?_
  refine ln (nz Zr_139) rfl (fun b_2 => ?_)
  refine soN 0 Sz_139 rfl ⟨rfl, rfl, rfl, rfl, rfl, rfl, rfl, rfl, rfl, rfl, rfl, trivial⟩ rfl ?_
  refine en <| rgn <| la rfl <| lf Fld_139_1 rfl rfl rfl <| ld5 Tn_137 0 rfl <| lf Fld_139_2 rfl rfl rfl <| ld5 Tn_137 0 rfl ?_
  have rc1 : RC RTArg 5 Φ_1 ([[], []] : List (List Nat)) [.int .i64 x1.L.K, .string x1.L.S, .int .i64 x1.L.V.K, .int .i64 x1.L.V.N, .string x1.L.V.S, .int .i64 x1.R.K, .string x1.R.S, .int .i64 x1.R.V.K, .int .i64 x1.R.V.N, .string x1.R.V.S] ([x1.L, x1.R] : List TArg) := RC.cons (c := [.int .i64 x1.L.K, .string x1.L.S, .int .i64 x1.L.V.K, .int .i64 x1.L.V.N, .string x1.L.V.S]) (cells := [.int .i64 x1.R.K, .string x1.R.S, .int .i64 x1.R.V.K, .int .i64 x1.R.V.N, .string x1.R.V.S]) ⟨rfl, rfl⟩ rfl (RC.cons (c := [.int .i64 x1.R.K, .string x1.R.S, .int .i64 x1.R.V.K, .int .i64 x1.R.V.N, .string x1.R.V.S]) (cells := []) ⟨rfl, rfl⟩ rfl (RC.nil _ _ _))
  refine le' (e_lit (vs := [(0, .agg [.int .i64 x1.L.K, .string x1.L.S, .int .i64 x1.L.V.K, .int .i64 x1.L.V.N, .string x1.L.V.S].toArray), (1, .agg [.int .i64 x1.R.K, .string x1.R.S, .int .i64 x1.R.V.K, .int .i64 x1.R.V.N, .string x1.R.V.S].toArray)]) (C := #[.int .i64 x1.L.K, .string x1.L.S, .int .i64 x1.L.V.K, .int .i64 x1.L.V.N, .string x1.L.V.S, .int .i64 x1.R.K, .string x1.R.S, .int .i64 x1.R.V.K, .int .i64 x1.R.V.N, .string x1.R.V.S]) RTArg.lasts Sl_169 Zr_137 rfl rfl rfl rfl (fill_made MC_137_2 (fill_cons (C' := [.int .i64 x1.L.K, .string x1.L.S, .int .i64 x1.L.V.K, .int .i64 x1.L.V.N, .string x1.L.V.S, .int .i64 0, .string ⟨#[]⟩, .int .i64 0, .int .i64 0, .string ⟨#[]⟩]) rfl rfl rfl rfl rfl (fill_cons (C' := [.int .i64 x1.L.K, .string x1.L.S, .int .i64 x1.L.V.K, .int .i64 x1.L.V.N, .string x1.L.V.S, .int .i64 x1.R.K, .string x1.R.S, .int .i64 x1.R.V.K, .int .i64 x1.R.V.N, .string x1.R.V.S]) rfl rfl rfl rfl rfl (fill_nil)))) rfl rc1 rfl (by simpa using Kw.nil)) rfl (fun v1 Φ_2 D1 q1 => ?_)
  obtain ⟨fr1, h1⟩ := q1
  replace h1 : OSl RTArg 137 5 Φ_2 [] v1 ([x1.L, x1.R] : List TArg) := by simpa using h1
  replace ph0_0 := ph0_0.frame RTPat.lasts fr1 (Dj.empty _)
  replace ph0_1 := ph0_1.frame RTCond.lasts fr1 (Dj.empty _)
  replace ph0_2 := ph0_2.frame RTAct.lasts fr1 (Dj.empty _)
  replace k2 := k2.frame RS.lasts fr1 (Dj.empty _) (Dj.empty _)
  obtain ⟨x2, hx2, h⟩ := bs h
  refine lc (k_call (js := [1]) (R := [ob v1]) Fun_147 rfl rfl (fun w1 hw ap hl => m_i_addVars_ok hw.fro N s1 ([x1.L, x1.R] : List TArg) k2 h1.rsl (Dj.app (ap.r (i := 0) rfl) (Dj.nil _)) ap.nd hl hx2)) rfl (fun v2 Φ_3 F2 q2 => ?_)
  obtain ⟨ap1, fr2, v3, rfl, rfl, h2⟩ := q2
  replace ph0_0 := ph0_0.frame RTPat.lasts fr2 (ap1.o pa0_0)
  replace ph0_1 := ph0_1.frame RTCond.lasts fr2 (ap1.o pa0_1)
  replace ph0_2 := ph0_2.frame RTAct.lasts fr2 (ap1.o pa0_2)
  refine la rfl <| en <| ib <| rgn <| la rfl <| la rfl <| en ?_
  exact lback (ih1 (Φ_3, x2, v2, IntKind.i64.wrap (s2 + 1)) ⟨h, h2, ph0_0, ph0_1, ph0_2⟩) ⟨rfl, rfl, rfl, rfl, rfl, trivial⟩ (fun w1 hw => (hw.sel (js := [0]) rfl).selO (js := [1]) rfl)
 refine xt rfl <| sq <| sr <| lf Fld_40_4 rfl rfl rfl <| lo T1_38 0 rfl <| lq (q_lenR Sl_38 rfl rfl ph0_2) rfl <| la rfl <| en <| blk ?_
 refine loop_in (σ := Hp × (List ByteArray) × Value × Int) (fun s => [(3, s.2.2.1), (26, pv0_2), (27, .int .i64 (p0.Acts.length : Int)), (28, .int .i64 s.2.2.2)]) (fun s => St w0 s.1 [] [ob s.2.2.1]) (fun m s => m_i_usedVars_l2 N p0 m s.2.1 s.2.2.2 = some r ∧ (OSl RS 9 1 s.1 [] s.2.2.1 s.2.1) ∧ (RSl RTAct 5 s.1 pG0_2 pv0_2 p0.Acts)) (Φ_1, s1, u1, 0) N ⟨h, k2, ph0_2⟩ ⟨rfl, rfl, rfl, rfl, trivial⟩ (fun w1 hw => (hw.sel (js := [0]) rfl).selO (js := []) rfl) (fun s hm => none_ne hm.1) (fun n2 ih2 s hm => ?_)
 obtain ⟨Φ_4, s3, u2, s4⟩ := s
 obtain ⟨h, k3, ph0_2⟩ := hm
 dsimp only at h k3 ph0_2 ⊢
 unfold m_i_usedVars_l2 at h
 refine sr <| la rfl <| en <| sq ?_
 refine cdh rfl h (fun c2 h => ?_) (fun c2 h => ?_)
 ·refine WT.skip <| sq <| blk <| sr ?_
  obtain ⟨x3, hx3, h⟩ := bs h
  obtain ⟨cs2, F3, -, g2, hb2, hs2, r2⟩ := ph0_2.el (idx_some hx3).2.2
  obtain ⟨v4, G1, rfl, hq1, h3⟩ := r2
  obtain rfl := hq1.symm
  refine lq (q_indexAddr Sl_38 rfl rfl ph0_2 hx3) rfl <| lg5 0 Tn_143 g2 rfl rfl ?_
  refine ln (nz Zr_143) rfl (fun b_3 => ?_)
  refine soN 0 Sz_143 rfl ⟨rfl, rfl, h3.one, rfl, rfl, trivial⟩ rfl ?_
  refine en <| sr <| lf Fld_143_2 rfl rfl rfl <| lo T1_141 0 rfl <| lq (q_lenR Sl_141 rfl rfl h3) rfl <| la rfl <| en <| blk ?_
  refine loop_in (σ := Hp × (List ByteArray) × Value × Int) (fun s => [(3, s.2.2.1), (26, pv0_2), (27, .int .i64 (p0.Acts.length : Int)), (28, .int .i64 s4), (33, v4), (34, .int .i64 (x3.Args.length : Int)), (35, .int .i64 s.2.2.2)]) (fun s => St w0 s.1 [] [ob s.2.2.1]) (fun m s => m_i_usedVars_l3 N s4 (m_i_usedVars_l2 N p0 n2) x3 m s.2.1 s.2.2.2 = some r ∧ (OSl RS 9 1 s.1 [] s.2.2.1 s.2.1) ∧ (RSl RTAct 5 s.1 pG0_2 pv0_2 p0.Acts) ∧ (RSl RTExpr 11 s.1 G1 v4 x3.Args)) (Φ_4, s3, u2, 0) N ⟨h, k3, ph0_2, h3⟩ ⟨rfl, rfl, rfl, rfl, rfl, rfl, rfl, trivial⟩ (fun w1 hw => (hw.sel (js := [0]) rfl).selO (js := []) rfl) (fun s hm => none_ne hm.1) (fun n3 ih3 s hm => ?_)
  obtain ⟨Φ_5, s5, u3, s6⟩ := s
  obtain ⟨h, k4, ph0_2, h3⟩ := hm
  dsimp only at h k4 ph0_2 h3 ⊢
  unfold m_i_usedVars_l3 at h
  refine sr <| la rfl <| en <| sq ?_
  refine cdh rfl h (fun c3 h => ?_) (fun c3 h => ?_)
  ·refine WT.skip <| sq <| blk <| sr ?_
   obtain ⟨x4, hx4, h⟩ := bs h
   obtain ⟨cs3, F4, -, g3, hb3, hs3, r3⟩ := h3.el (idx_some hx4).2.2
   obtain ⟨rfl, -⟩ := r3
   refine lq (q_indexAddr Sl_141 rfl rfl h3 hx4) rfl <| lg11 0 Tn_191 g3 rfl rfl ?_
   refine ln (nz Zr_191) rfl (fun b_4 => ?_)
   refine soN 0 Sz_191 rfl ⟨rfl, rfl, rfl, rfl, rfl, rfl, rfl, rfl, rfl, rfl, rfl, trivial⟩ rfl ?_
   refine en <| rgn <| la rfl <| lf Fld_191_1 rfl rfl rfl <| ld5 Tn_137 0 rfl <| lf Fld_191_2 rfl rfl rfl <| ld5 Tn_137 0 rfl ?_
   have rc2 : RC RTArg 5 Φ_5 ([[], []] : List (List Nat)) [.int .i64 x4.L.K, .string x4.L.S, .int .i64 x4.L.V.K, .int .i64 x4.L.V.N, .string x4.L.V.S, .int .i64 x4.R.K, .string x4.R.S, .int .i64 x4.R.V.K, .int .i64 x4.R.V.N, .string x4.R.V.S] ([x4.L, x4.R] : List TArg) := RC.cons (c := [.int .i64 x4.L.K, .string x4.L.S, .int .i64 x4.L.V.K, .int .i64 x4.L.V.N, .string x4.L.V.S]) (cells := [.int .i64 x4.R.K, .string x4.R.S, .int .i64 x4.R.V.K, .int .i64 x4.R.V.N, .string x4.R.V.S]) ⟨rfl, rfl⟩ rfl (RC.cons (c := [.int .i64 x4.R.K, .string x4.R.S, .int .i64 x4.R.V.K, .int .i64 x4.R.V.N, .string x4.R.V.S]) (cells := []) ⟨rfl, rfl⟩ rfl (RC.nil _ _ _))
   refine le' (e_lit (vs := [(0, .agg [.int .i64 x4.L.K, .string x4.L.S, .int .i64 x4.L.V.K, .int .i64 x4.L.V.N, .string x4.L.V.S].toArray), (1, .agg [.int .i64 x4.R.K, .string x4.R.S, .int .i64 x4.R.V.K, .int .i64 x4.R.V.N, .string x4.R.V.S].toArray)]) (C := #[.int .i64 x4.L.K, .string x4.L.S, .int .i64 x4.L.V.K, .int .i64 x4.L.V.N, .string x4.L.V.S, .int .i64 x4.R.K, .string x4.R.S, .int .i64 x4.R.V.K, .int .i64 x4.R.V.N, .string x4.R.V.S]) RTArg.lasts Sl_169 Zr_137 rfl rfl rfl rfl (fill_made MC_137_2 (fill_cons (C' := [.int .i64 x4.L.K, .string x4.L.S, .int .i64 x4.L.V.K, .int .i64 x4.L.V.N, .string x4.L.V.S, .int .i64 0, .string ⟨#[]⟩, .int .i64 0, .int .i64 0, .string ⟨#[]⟩]) rfl rfl rfl rfl rfl (fill_cons (C' := [.int .i64 x4.L.K, .string x4.L.S, .int .i64 x4.L.V.K, .int .i64 x4.L.V.N, .string x4.L.V.S, .int .i64 x4.R.K, .string x4.R.S, .int .i64 x4.R.V.K, .int .i64 x4.R.V.N, .string x4.R.V.S]) rfl rfl rfl rfl rfl (fill_nil)))) rfl rc2 rfl (by simpa using Kw.nil)) rfl (fun v5 Φ_6 D2 q3 => ?_)
   obtain ⟨fr3, h4⟩ := q3
   replace h4 : OSl RTArg 137 5 Φ_6 [] v5 ([x4.L, x4.R] : List TArg) := by simpa using h4
   replace ph0_2 := ph0_2.frame RTAct.lasts fr3 (Dj.empty _)
   replace h3 := h3.frame RTExpr.lasts fr3 (Dj.empty _)
   replace k4 := k4.frame RS.lasts fr3 (Dj.empty _) (Dj.empty _)
   obtain ⟨x5, hx5, h⟩ := bs h
   refine lc (k_call (js := [1]) (R := [ob v5]) Fun_147 rfl rfl (fun w1 hw ap hl => m_i_addVars_ok hw.fro N s5 ([x4.L, x4.R] : List TArg) k4 h4.rsl (Dj.app (ap.r (i := 0) rfl) (Dj.nil _)) ap.nd hl hx5)) rfl (fun v6 Φ_7 F5 q4 => ?_)
   obtain ⟨ap2, fr4, v7, rfl, rfl, h5⟩ := q4
   replace ph0_2 := ph0_2.frame RTAct.lasts fr4 (ap2.o pa0_2)
   replace h3 := h3.frame RTExpr.lasts fr4 (Dj.sub (ap2.o pa0_2) (fun k h => hs2 k h))
   refine la rfl <| en <| ib <| rgn <| la rfl <| la rfl <| en ?_
   exact lback (ih3 (Φ_7, x5, v6, IntKind.i64.wrap (s6 + 1)) ⟨h, h5, ph0_2, h3⟩) ⟨rfl, rfl, rfl, rfl, rfl, rfl, rfl, trivial⟩ (fun w1 hw => (hw.sel (js := [0]) rfl).selO (js := []) rfl)
  refine xt rfl <| ib <| rgn <| la rfl <| la rfl <| en ?_
  exact lback (ih2 (Φ_5, s5, u3, IntKind.i64.wrap (s4 + 1)) ⟨h, k4, ph0_2⟩) ⟨rfl, rfl, rfl, rfl, trivial⟩ (fun w1 hw => (hw.sel (js := [0]) rfl).selO (js := []) rfl)
 refine xt rfl <| sr <| la rfl <| la rfl <| en ?_
 refine WT.ret Tryz.func96 (resOk.one rfl) (fun w1 hw => ?_)
 subst hb0
 cases h
 refine postG_of_St (js := [0]) hw rfl ⟨u2, rfl, rfl, k3⟩
theorem m_i_RuleOk_ok {Φ : Hp} {w : World} (hΦ : In Φ w) (N : Nat) (p0 : TRule) {pv0_0 pv0_1 pv0_2 : Value} {pG0_0 pG0_1 pG0_2 : List Nat} (ph0_0 : RSl RTPat 3 Φ pG0_0 pv0_0 p0.Pats) (ph0_1 : RSl RTCond 11 Φ pG0_1 pv0_1 p0.Conds) (ph0_2 : RSl RTAct 5 Φ pG0_2 pv0_2 p0.Acts) {r : Bool} (h : m_i_RuleOk N p0 = some r) :
  Calls Tryz.prog 42 [.agg [.string p0.Name, .int .i64 p0.Sal, pv0_0, pv0_1, pv0_2].toArray].toArray w (Post (.bool r) w) := by
 refine enter Tryz.func42 rfl Tryz.ntmps42 rfl (St.start0 hΦ) ?_
 have pa0_0 := Old.mk hΦ ph0_0.kn (Dj.empty _)
 have pa0_1 := Old.mk hΦ ph0_1.kn (Dj.empty _)
 have pa0_2 := Old.mk hΦ ph0_2.kn (Dj.empty _)
 revert pa0_0 pa0_1 pa0_2
 generalize hb0 : (⟨w, [], Φ⟩ : Base) = w0
 intro pa0_0 pa0_1 pa0_2
 unfold m_i_RuleOk at h
 refine sr ?_
 refine ln (nb rfl) rfl (fun b_1 => ?_)
 refine la rfl <| en <| sq <| sr <| lf Fld_40_0 rfl rfl rfl <| lo T1_9 0 rfl ?_
 obtain ⟨x1, hx1, h⟩ := bs h
 refine lp (p_call Fun_80 rfl (fun w1 hw => m_i_NameOk_ok hw.fro N p0.Name hx1)) rfl <| la rfl <| la rfl ?_
 obtain ⟨b1, hb_1, h⟩ := bs h
 refine WL.cutN 5 [(19, .bool b1), (1, .pointer (some ⟨b_1, 0, none⟩))] ?_ (fun K => ?_)
 rotate_left
 ·refine spl 14 rfl hb_1 (fun c1 hb_1 => ?_) (fun c1 hb_1 => ?_)
  ·refine la rfl <| la rfl <| la rfl <| la rfl <| la rfl ?_
   cases hb_1
   exact kk K ⟨rfl, rfl, trivial⟩
  ·refine ly rfl rfl <| lf Fld_40_1 rfl rfl rfl <| ly rfl rfl <| lo T1_3 0 rfl <| ly rfl rfl ?_
   obtain ⟨x2, hx2, hb_1⟩ := bs hb_1
   refine lp (p_call Fun_81 rfl (fun w1 hw => m_i_inRange_ok hw.fro N p0.Sal (-100) 100 hx2)) rfl <| ly rfl rfl <| la rfl <| la rfl ?_
   cases hb_1
   exact kk K ⟨rfl, rfl, trivial⟩
 refine la rfl ?_
 obtain ⟨b2, hb_2, h⟩ := bs h
 refine WL.cutN 4 [(24, .bool b2), (1, .pointer (some ⟨b_1, 0, none⟩))] ?_ (fun K => ?_)
 rotate_left
 ·refine spl 20 rfl hb_2 (fun c2 hb_2 => ?_) (fun c2 hb_2 => ?_)
  ·refine la rfl <| la rfl <| la rfl <| la rfl ?_
   cases hb_2
   exact kk K ⟨rfl, rfl, trivial⟩
  ·refine ly rfl rfl <| ld5 Tn_40 0 rfl <| ly rfl rfl ?_
   obtain ⟨x3, hx3, hb_2⟩ := bs hb_2
   refine lp (p_call Fun_91 rfl (fun w1 hw => m_i_patsOk_ok hw.fro N p0 ph0_0 ph0_1 ph0_2 hx3)) rfl <| ly rfl rfl <| la rfl <| la rfl ?_
   cases hb_2
   exact kk K ⟨rfl, rfl, trivial⟩
 refine en ?_
 refine cdh rfl h (fun c3 h => ?_) (fun c3 h => ?_)
 ·refine sr <| la rfl <| en ?_
  refine WT.ret Tryz.func42 (resOk.one rfl) (fun w1 hw => ?_)
  subst hb0
  cases h
  exact post_of_St hw
 refine WT.skip <| sq <| sr <| lf Fld_40_3 rfl rfl rfl <| lo T1_37 0 rfl <| lq (q_lenR Sl_37 rfl rfl ph0_1) rfl <| la rfl <| la rfl ?_
 obtain ⟨b3, hb_3, h⟩ := bs h
 refine WL.cutN 6 [(35, .bool b3), (1, .pointer (some ⟨b_1, 0, none⟩))] ?_ (fun K => ?_)
 rotate_left
 ·refine spl 29 rfl hb_3 (fun c4 hb_3 => ?_) (fun c4 hb_3 => ?_)
  ·refine la rfl <| la rfl <| la rfl <| la rfl <| la rfl <| la rfl ?_
   cases hb_3
   exact kk K ⟨rfl, rfl, trivial⟩
  ·refine ly rfl rfl <| lf Fld_40_4 rfl rfl rfl <| ly rfl rfl <| lo T1_38 0 rfl <| ly rfl rfl <| lq (q_lenR Sl_38 rfl rfl ph0_2) rfl <| ly rfl rfl ?_
   obtain ⟨x4, hx4, hb_3⟩ := bs hb_3
   refine lp (p_call Fun_81 rfl (fun w1 hw => m_i_inRange_ok hw.fro N (p0.Acts.length : Int) 1 6 hx4)) rfl <| ly rfl rfl <| la rfl <| la rfl ?_
   cases hb_3
   exact kk K ⟨rfl, rfl, trivial⟩
 refine en ?_
 refine cdh rfl h (fun c5 h => ?_) (fun c5 h => ?_)
 ·refine sr <| la rfl <| en ?_
  refine WT.ret Tryz.func42 (resOk.one rfl) (fun w1 hw => ?_)
  subst hb0
  cases h
  exact post_of_St hw
 refine WT.skip <| sq <| sr <| lf Fld_40_3 rfl rfl rfl <| lo T1_37 0 rfl <| lq (q_lenR Sl_37 rfl rfl ph0_1) rfl <| la rfl <| en <| blk ?_
 refine loop_in (σ := Int) (fun s => [(1, .pointer (some ⟨b_1, 0, none⟩)), (37, pv0_1), (38, .int .i64 (p0.Conds.length : Int)), (39, .int .i64 s)]) (fun s => St w0 Φ [(b_1, .cells #[.string p0.Name, .int .i64 p0.Sal, pv0_0, pv0_1, pv0_2] 40 (0, 0))] []) (fun m s => m_i_RuleOk_l1 N p0 m s = some r) (0) N h ⟨rfl, rfl, rfl, rfl, trivial⟩ (fun w1 hw => (hw.sel (js := []) rfl).selO (js := [0]) rfl) (fun s hm => none_ne hm) (fun n1 ih1 s hm => ?_)
 revert hm; revert s; intro s1 hm
 have h : m_i_RuleOk_l1 N p0 (n1 + 1) s1 = some r := hm
 show WT _ _ [(1, .pointer (some ⟨b_1, 0, none⟩)), (37, pv0_1), (38, .int .i64 (p0.Conds.length : Int)), (39, .int .i64 s1)] (St w0 Φ [(b_1, .cells #[.string p0.Name, .int .i64 p0.Sal, pv0_0, pv0_1, pv0_2] 40 (0, 0))] [])
 unfold m_i_RuleOk_l1 at h
 refine sr <| la rfl <| en <| sq ?_
 refine cdh rfl h (fun c6 h => ?_) (fun c6 h => ?_)
 ·refine WT.skip <| sq <| blk <| sr ?_
  obtain ⟨x5, hx5, h⟩ := bs h
  obtain ⟨cs1, F1, -, g1, hb1, hs1, r1⟩ := ph0_1.el (idx_some hx5).2.2
  obtain ⟨rfl, -⟩ := r1
  refine lq (q_indexAddr Sl_37 rfl rfl ph0_1 hx5) rfl <| lg11 0 Tn_139 g1 rfl rfl ?_
  refine ln (nz Zr_139) rfl (fun b_2 => ?_)
  refine soN 0 Sz_139 rfl ⟨rfl, rfl, rfl, rfl, rfl, rfl, rfl, rfl, rfl, rfl, rfl, trivial⟩ rfl ?_
  refine en <| sr <| ld11 Tn_139 0 rfl ?_
  obtain ⟨x6, hx6, h⟩ := bs h
  refine lp (p_call Fun_92 rfl (fun w1 hw => m_i_CondOk_ok hw.fro N x5 hx6)) rfl <| la rfl <| en ?_
  refine cdh rfl h (fun c7 h => ?_) (fun c7 h => ?_)
  ·refine sr <| la rfl <| en ?_
   refine WT.ret Tryz.func42 (resOk.one rfl) (fun w1 hw => ?_)
   subst hb0
   cases h
   exact post_of_St hw
  refine WT.skip <| ib <| rgn <| la rfl <| la rfl <| en ?_
  exact lback (ih1 (IntKind.i64.wrap (s1 + 1)) h) ⟨rfl, rfl, rfl, rfl, trivial⟩ (fun w1 hw => (hw.sel (js := []) rfl).selO (js := [1]) rfl)
 refine xt rfl <| sq <| sr <| lf Fld_40_4 rfl rfl rfl <| lo T1_38 0 rfl <| lq (q_lenR Sl_38 rfl rfl ph0_2) rfl <| la rfl <| en <| blk ?_
 refine loop_in (σ := Int) (fun s => [(1, .pointer (some ⟨b_1, 0, none⟩)), (48, pv0_2), (49, .int .i64 (p0.Acts.length : Int)), (50, .int .i64 s)]) (fun s => St w0 Φ [(b_1, .cells #[.string p0.Name, .int .i64 p0.Sal, pv0_0, pv0_1, pv0_2] 40 (0, 0))] []) (fun m s => m_i_RuleOk_l2 N p0 m s = some r) (0) N h ⟨rfl, rfl, rfl, rfl, trivial⟩ (fun w1 hw => (hw.sel (js := []) rfl).selO (js := [0]) rfl) (fun s hm => none_ne hm) (fun n2 ih2 s hm => ?_)
 revert hm; revert s; intro s2 hm
 have h : m_i_RuleOk_l2 N p0 (n2 + 1) s2 = some r := hm
 show WT _ _ [(1, .pointer (some ⟨b_1, 0, none⟩)), (48, pv0_2), (49, .int .i64 (p0.Acts.length : Int)), (50, .int .i64 s2)] (St w0 Φ [(b_1, .cells #[.string p0.Name, .int .i64 p0.Sal, pv0_0, pv0_1, pv0_2] 40 (0, 0))] [])
 unfold m_i_RuleOk_l2 at h
 refine sr <| la rfl <| en <| sq ?_
 refine cdh rfl h (fun c8 h => ?_) (fun c8 h => ?_)
 ·refine WT.skip <| sq <| blk <| sr ?_
  obtain ⟨x7, hx7, h⟩ := bs h
  obtain ⟨cs2, F2, -, g2, hb2, hs2, r2⟩ := ph0_2.el (idx_some hx7).2.2
  obtain ⟨v1, G1, rfl, hq1, h1⟩ := r2
  obtain rfl := hq1.symm
  refine lq (q_indexAddr Sl_38 rfl rfl ph0_2 hx7) rfl <| lg5 0 Tn_143 g2 rfl rfl ?_
  refine ln (nz Zr_143) rfl (fun b_3 => ?_)
  refine soN 0 Sz_143 rfl ⟨rfl, rfl, h1.one, rfl, rfl, trivial⟩ rfl ?_
  refine en <| sq <| WT.draw mixed (by kernel_rfl) (fun _ h => h.drew) <| qq (q_loadN Tn_143 rfl (fun w1 hw => hw.rgO (i := 0) rfl 0 5 [.int .i64 x7.Kind, .string x7.Name, v1, .int .i64 x7.N, .string x7.Undo] rfl) rfl) rfl ?_
  obtain ⟨x8, hx8, h⟩ := bs h
  refine qp (p_call Fun_93 rfl (fun w1 hw => m_i_ActOk_ok hw.fro N x7 h1 hx8)) rfl <| qq (q_not rfl) rfl <| qq (q_move rfl) rfl ?_
  obtain ⟨b4, hb_4, h⟩ := bs h
  refine WQ.cutN 11 [(68, .bool b4), (1, .pointer (some ⟨b_1, 0, none⟩)), (48, pv0_2), (49, .int .i64 (p0.Acts.length : Int)), (50, .int .i64 s2)] ?_ (fun K => ?_)
  rotate_left
  ·refine WQ.split (d := 57) rfl (fun c9 => ?_) (fun c9 => ?_)
   ·replace hb_4 := ite_t hb_4 c9
    refine WQ.no rfl rfl rfl rfl <| WQ.no rfl rfl rfl rfl <| WQ.no rfl rfl rfl rfl <| WQ.no rfl rfl rfl rfl <| WQ.nox rfl rfl rfl rfl <| WQ.nox rfl rfl rfl rfl <| WQ.nox rfl rfl rfl rfl <| WQ.nox rfl rfl rfl rfl <| WQ.nox rfl rfl rfl rfl <| WQ.no rfl rfl rfl rfl <| WQ.q (q_pick1 rfl rfl) rfl rfl rfl ?_
    cases hb_4
    exact WQ.keep (by exact ⟨rfl, rfl, rfl, rfl, rfl, trivial⟩) K
   ·replace hb_4 := ite_f hb_4 c9
    refine WQ.yes rfl rfl <| qq (q_fieldAddr Fld_143_0 rfl) rfl <| WQ.yes rfl rfl <| qq (q_load1 T1_3 rfl (fun w1 hw => hw.rgO (i := 0) rfl 0 1 [.int .i64 x7.Kind] rfl)) rfl <| WQ.yes rfl rfl <| qq (q_eql rfl rfl) rfl <| WQ.yes rfl rfl <| qq (q_move rfl) rfl ?_
    obtain ⟨b5, hb_5, hb_4⟩ := bs hb_4
    refine WQ.cutN 6 [(67, .bool b5), (1, .pointer (some ⟨b_1, 0, none⟩)), (48, pv0_2), (49, .int .i64 (p0.Acts.length : Int)), (50, .int .i64 s2), (57, .bool false)] ?_ (fun K => ?_)
    rotate_left
    ·refine WQ.split (d := 61) rfl (fun c10 => ?_) (fun c10 => ?_)
     ·replace hb_5 := ite_t hb_5 c10
      refine WQ.yes rfl rfl <| qq (q_fieldAddr Fld_143_3 rfl) rfl <| WQ.yes rfl rfl <| qq (q_load1 T1_3 rfl (fun w1 hw => hw.rgO (i := 0) rfl 3 1 [.int .i64 x7.N] rfl)) rfl <| WQ.yes rfl rfl <| qq (q_loadN Tn_40 rfl (fun w1 hw => hw.rgO (i := 1) rfl 0 5 [.string p0.Name, .int .i64 p0.Sal, pv0_0, pv0_1, pv0_2] rfl) rfl) rfl <| WQ.yes rfl rfl ?_
      obtain ⟨x9, hx9, hb_5⟩ := bs hb_5
      refine qp (p_call Fun_94 rfl (fun w1 hw => m_i_PosCount_ok hw.fro N p0 ph0_0 ph0_1 ph0_2 hx9)) rfl <| WQ.yes rfl rfl <| qq (q_geq rfl rfl) rfl <| WQ.yes rfl rfl <| WQ.q (q_pick1 rfl rfl) rfl rfl rfl ?_
      cases hb_5
      exact WQ.keep (by exact ⟨rfl, rfl, rfl, rfl, rfl, rfl, trivial⟩) K
     ·replace hb_5 := ite_f hb_5 c10
      refine WQ.no rfl rfl rfl rfl <| WQ.no rfl rfl rfl rfl <| WQ.no rfl rfl rfl rfl <| WQ.no rfl rfl rfl rfl <| WQ.no rfl rfl rfl rfl <| WQ.yes rfl rfl <| WQ.q (q_pick0 rfl rfl) rfl rfl rfl ?_
      cases hb_5
      exact WQ.keep (by exact ⟨rfl, rfl, rfl, rfl, rfl, rfl, trivial⟩) K
    refine WQ.q (q_pick0 rfl rfl) rfl rfl rfl ?_
    cases hb_4
    exact WQ.keep (by exact ⟨rfl, rfl, rfl, rfl, rfl, trivial⟩) K
  refine WQ.nil ?_
  refine cdh rfl h (fun c11 h => ?_) (fun c11 h => ?_)
  ·refine sr <| la rfl <| en ?_
   refine WT.ret Tryz.func42 (resOk.one rfl) (fun w1 hw => ?_)
   subst hb0
   cases h
   exact post_of_St hw
  refine WT.skip <| ib <| rgn <| la rfl <| la rfl <| en ?_
  exact lback (ih2 (IntKind.i64.wrap (s2 + 1)) h) ⟨rfl, rfl, rfl, rfl, trivial⟩ (fun w1 hw => (hw.sel (js := []) rfl).selO (js := [1]) rfl)
 refine xt rfl <| sr <| ld5 Tn_40 0 rfl ?_
 obtain ⟨x10, hx10, h⟩ := bs h
 refine lc (k_call (js := []) (R := []) Fun_95 rfl rfl (fun w1 hw ap hl => m_i_PosVars_ok hw.fro N p0 ph0_0 ph0_1 ph0_2  hx10)) rfl (fun v2 Φ_1 F3 q1 => ?_)
 obtain ⟨ap1, fr1, v3, rfl, rfl, h2⟩ := q1
 replace ph0_0 := ph0_0.frame RTPat.lasts fr1 (ap1.o pa0_0)
 replace ph0_1 := ph0_1.frame RTCond.lasts fr1 (ap1.o pa0_1)
 replace ph0_2 := ph0_2.frame RTAct.lasts fr1 (ap1.o pa0_2)
 refine la rfl <| en <| sq <| sr <| ld5 Tn_40 0 rfl ?_
 obtain ⟨x11, hx11, h⟩ := bs h
 refine lc (k_call (js := []) (R := [ob v2]) Fun_96 rfl rfl (fun w1 hw ap hl => m_i_usedVars_ok hw.fro N p0 ph0_0 ph0_1 ph0_2  hx11)) rfl (fun v4 Φ_2 F4 q2 => ?_)
 obtain ⟨ap2, fr2, v5, rfl, rfl, h3⟩ := q2
 replace h2 := h2.frame RS.lasts fr2 (ap2.r (i := 0) rfl) (Dj.nil _)
 refine lq (q_lenR Sl_114 rfl rfl h3.rsl) rfl <| la rfl <| en <| blk ?_
 refine loop_in (σ := Int) (fun s => [(7, v2), (73, v4), (74, .int .i64 (x11.length : Int)), (75, .int .i64 s)]) (fun s => St w0 Φ_2 [] [ob v4, ob v2]) (fun m s => m_i_RuleOk_l3 N x10 x11 m s = some r) (0) N h ⟨rfl, rfl, rfl, rfl, trivial⟩ (fun w1 hw => (hw.sel (js := [0, 0]) rfl).selO (js := []) rfl) (fun s hm => none_ne hm) (fun n3 ih3 s hm => ?_)
 revert hm; revert s; intro s3 hm
 have h : m_i_RuleOk_l3 N x10 x11 (n3 + 1) s3 = some r := hm
 show WT _ _ [(7, v2), (73, v4), (74, .int .i64 (x11.length : Int)), (75, .int .i64 s3)] (St w0 Φ_2 [] [ob v4, ob v2])
 unfold m_i_RuleOk_l3 at h
 refine sr <| la rfl <| en <| sq ?_
 refine cdh rfl h (fun c12 h => ?_) (fun c12 h => ?_)
 ·refine WT.skip <| sq <| blk <| sr ?_
  obtain ⟨x12, hx12, h⟩ := bs h
  obtain ⟨cs3, F5, -, g3, hb3, hs3, r3⟩ := h3.elS (idx_some hx12).2.2
  obtain ⟨rfl, -⟩ := r3
  refine lq (q_indexAddr Sl_114 rfl rfl h3.rsl hx12) rfl <| lg 0 T1_9 g3 rfl rfl <| la rfl <| en <| sr <| la rfl <| la rfl ?_
  obtain ⟨x13, hx13, h⟩ := bs h
  refine lp (p_call Fun_97 rfl (fun w1 hw => m_sl_Contains_Sstring_string_ok hw.fro N x10 x12 h2.rsl hx13)) rfl <| la rfl <| en ?_
  refine cdh rfl h (fun c13 h => ?_) (fun c13 h => ?_)
  ·refine sr <| la rfl <| en ?_
   refine WT.ret Tryz.func42 (resOk.one rfl) (fun w1 hw => ?_)
   subst hb0
   cases h
   exact post_of_St hw
  refine WT.skip <| ib <| rgn <| la rfl <| la rfl <| en ?_
  exact lback (ih3 (IntKind.i64.wrap (s3 + 1)) h) ⟨rfl, rfl, rfl, rfl, trivial⟩ (fun w1 hw => (hw.sel (js := [0, 0]) rfl).selO (js := []) rfl)
 refine xt rfl <| sr <| la rfl <| en ?_
 refine WT.ret Tryz.func42 (resOk.one rfl) (fun w1 hw => ?_)
 subst hb0
 cases h
 exact post_of_St hw
theorem m_sl_IndexFunc_Si_Rule_i_Rule_ok {Φ : Hp} {w : World} (hΦ : In Φ w) (N : Nat) (p0 : (List TRule)) (p1 : TRule → Option (Bool)) {pv0 : Value} {pG0 : List Nat} {p1f : Nat} {p1fr : List Value} (ph0 : RSl RTRule 5 Φ pG0 pv0 p0) (p1hF : Fun Tryz.prog p1f = true) (p1h : ∀ {Φ' : Hp} {w' : World}, FrH [] Φ Φ' → In Φ' w' → ∀ (p1a0 : TRule) {p1v0_0 : Value} {p1G0_0 : List Nat} {p1v0_1 : Value} {p1G0_1 : List Nat} {p1v0_2 : Value} {p1G0_2 : List Nat} (_ : RSl RTPat 3 Φ' p1G0_0 p1v0_0 p1a0.Pats) (_ : RSl RTCond 11 Φ' p1G0_1 p1v0_1 p1a0.Conds) (_ : RSl RTAct 5 Φ' p1G0_2 p1v0_2 p1a0.Acts) {r : Bool}, p1 p1a0 = some r → Calls Tryz.prog p1f (([.agg [.string p1a0.Name, .int .i64 p1a0.Sal, p1v0_0, p1v0_1, p1v0_2].toArray] : List Value) ++ p1fr).toArray w' (Post (.bool r) w')) {r : Int} (h : m_sl_IndexFunc_Si_Rule_i_Rule N p0 p1 = some r) :
  Calls Tryz.prog 133 [pv0, .func (.func p1f) #[] p1fr.toArray].toArray w (Post (.int .i64 r) w) := by
 refine enter Tryz.func133 rfl Tryz.ntmps133 rfl (St.start0 hΦ) ?_
 generalize hb0 : (⟨w, [], Φ⟩ : Base) = w0
 unfold m_sl_IndexFunc_Si_Rule_i_Rule at h
 refine sr <| la rfl <| en <| sq <| sr <| la rfl <| lq (q_lenR Sl_24 rfl rfl ph0) rfl <| la rfl <| en <| blk ?_
 refine loop_in (σ := Int) (fun s => [(0, pv0), (1, .func (.func p1f) #[] p1fr.toArray), (7, .int .i64 (p0.length : Int)), (8, .int .i64 s)]) (fun s => St w0 Φ [] []) (fun m s => m_sl_IndexFunc_Si_Rule_i_Rule_l1 N p0 p1 m s = some r) (0) N h ⟨rfl, rfl, rfl, rfl, trivial⟩ (fun w1 hw => (hw.sel (js := []) rfl).selO (js := []) rfl) (fun s hm => none_ne hm) (fun n1 ih1 s hm => ?_)
 revert hm; revert s; intro s1 hm
 have h : m_sl_IndexFunc_Si_Rule_i_Rule_l1 N p0 p1 (n1 + 1) s1 = some r := hm
 show WT _ _ [(0, pv0), (1, .func (.func p1f) #[] p1fr.toArray), (7, .int .i64 (p0.length : Int)), (8, .int .i64 s1)] (St w0 Φ [] [])
 unfold m_sl_IndexFunc_Si_Rule_i_Rule_l1 at h
 refine sr <| la rfl <| en <| sq ?_
 refine cdh rfl h (fun c1 h => ?_) (fun c1 h => ?_)
 ·refine WT.skip <| sq <| blk <| sr <| la rfl <| la rfl <| en <| sr <| la rfl <| la rfl <| la rfl ?_
  obtain ⟨x1, hx1, h⟩ := bs h
  obtain ⟨cs1, F1, -, g1, hb1, hs1, r1⟩ := ph0.el (idx_some hx1).2.2
  obtain ⟨v1, G1, v2, G2, v3, G3, rfl, rfl, h1, h2, h3⟩ := r1
  refine lq (q_indexAddr Sl_24 rfl rfl ph0 hx1) rfl <| lg5 0 Tn_40 g1 rfl rfl ?_
  obtain ⟨x2, hx2, h⟩ := bs h
  refine lp (p_callV p1hF rfl rfl (fun w1 hw => p1h (by subst hb0; exact hw.frB hΦ) hw.fro x1 h1 h2 h3 hx2)) rfl <| en ?_
  refine cdh rfl h (fun c2 h => ?_) (fun c2 h => ?_)
  ·refine sr <| la rfl <| la rfl <| en ?_
   refine WT.ret Tryz.func133 (resOk.one rfl) (fun w1 hw => ?_)
   subst hb0
   cases h
   exact post_of_St hw
  refine WT.skip <| ib <| rgn <| la rfl <| la rfl <| en ?_
  exact lback (ih1 (IntKind.i64.wrap (s1 + 1)) h) ⟨rfl, rfl, rfl, rfl, trivial⟩ (fun w1 hw => (hw.sel (js := []) rfl).selO (js := []) rfl)
 refine xt rfl <| sr <| la rfl <| en ?_
 refine WT.ret Tryz.func133 (resOk.one rfl) (fun w1 hw => ?_)
 subst hb0
 cases h
 exact post_of_St hw
theorem m_i_RuleAt_c1_ok {Φ : Hp} {w : World} (hΦ : In Φ w) (N : Nat) (p0 : TRule) (c0 : ByteArray) {pv0_0 pv0_1 pv0_2 : Value} {pG0_0 pG0_1 pG0_2 : List Nat} {pbc0 : Nat} (ph0_0 : RSl RTPat 3 Φ pG0_0 pv0_0 p0.Pats) (ph0_1 : RSl RTCond 11 Φ pG0_1 pv0_1 p0.Conds) (ph0_2 : RSl RTAct 5 Φ pG0_2 pv0_2 p0.Acts) (ppc0 : Φ pbc0 = some (.cells #[.string c0] 9 (0, 0))) {r : Bool} (h : m_i_RuleAt_c1 N p0 c0 = some r) :
  Calls Tryz.prog 134 [.agg [.string p0.Name, .int .i64 p0.Sal, pv0_0, pv0_1, pv0_2].toArray, .pointer (some ⟨pbc0, 0, none⟩)].toArray w (Post (.bool r) w) := by
 refine enter Tryz.func134 rfl Tryz.ntmps134 rfl (St.start0 hΦ) ?_
 unfold m_i_RuleAt_c1 at h
 refine sr ?_
 refine ln (nb rfl) rfl (fun b_1 => ?_)
 refine la rfl <| en <| sr <| lf Fld_40_0 rfl rfl rfl <| lo T1_9 0 rfl <| lq (q_load1 T1_9 rfl (fun w1 hw => ((rg_cells ppc0).of_eq 0 1 rfl rfl : rg _ _ _ [.string c0]).rangeAt hw.fro)) rfl <| la rfl <| la rfl <| en ?_
 refine WT.ret Tryz.func134 (resOk.one rfl) (fun w1 hw => ?_)
 cases h
 exact post_of_St hw
theorem m_i_RuleAt_ok {Φ : Hp} {w : World} (hΦ : In Φ w) (N : Nat) (p0 : TDef) (p1 : ByteArray) {pv0_0 : Value} {pG0_0 : List Nat} (ph0_0 : RSl RTRule 5 Φ pG0_0 pv0_0 p0.Rules) {r : Int} (h : m_i_RuleAt N p0 p1 = some r) :
  Calls Tryz.prog 82 [.agg [.string p0.Name, pv0_0].toArray, .string p1].toArray w (Post (.int .i64 r) w) := by
 refine enter Tryz.func82 rfl Tryz.ntmps82 rfl (St.start0 hΦ) ?_
 unfold m_i_RuleAt at h
 refine sr ?_
 refine ln (nb rfl) rfl (fun b_1 => ?_)
 refine ln (n_box (C := #[.string p1]) rfl rfl) rfl (fun b_2 => ?_)
 refine la rfl <| en <| sr <| lf Fld_26_1 rfl rfl rfl <| lo T1_24 1 rfl ?_
 refine WL.frz (js := [0]) (R := [(b_1, .cells #[.string p0.Name, pv0_0] 26 (0, 0))]) rfl (fun Φ_1 fr1 k1 => ?_)
 replace ph0_0 := ph0_0.frame RTRule.lasts fr1 (Dj.empty _)
 refine lq (q_makeFunc rfl) rfl ?_
 obtain ⟨x1, hx1, h⟩ := bs h
 refine lp (p_call Fun_133 rfl (fun w1 hw => m_sl_IndexFunc_Si_Rule_i_Rule_ok hw.fro N p0.Rules (fun a0 => m_i_RuleAt_c1 N a0 p1) ph0_0 Fun_134 (fun hle' hin a0 => fun f0 f1 f2 => fun hr => m_i_RuleAt_c1_ok hin N a0 p1 f0 f1 f2 (hle' _ _ (by simp) k1) hr) hx1)) rfl <| la rfl <| en ?_
 refine WT.ret Tryz.func82 (resOk.one rfl) (fun w1 hw => ?_)
 cases h
 exact post_of_St hw
theorem m_i_DefOk_ok {Φ : Hp} {w : World} (hΦ : In Φ w) (N : Nat) (p0 : TDef) {pv0_0 : Value} {pG0_0 : List Nat} (ph0_0 : RSl RTRule 5 Φ pG0_0 pv0_0 p0.Rules) {r : Bool} (h : m_i_DefOk N p0 = some r) :
  Calls Tryz.prog 35 [.agg [.string p0.Name, pv0_0].toArray].toArray w (Post (.bool r) w) := by
 refine enter Tryz.func35 rfl Tryz.ntmps35 rfl (St.start0 hΦ) ?_
 generalize hb0 : (⟨w, [], Φ⟩ : Base) = w0
 unfold m_i_DefOk at h
 refine sr ?_
 refine ln (nb rfl) rfl (fun b_1 => ?_)
 refine la rfl <| en <| sq <| sr <| lf Fld_26_0 rfl rfl rfl <| lo T1_9 0 rfl ?_
 obtain ⟨x1, hx1, h⟩ := bs h
 refine lp (p_call Fun_80 rfl (fun w1 hw => m_i_NameOk_ok hw.fro N p0.Name hx1)) rfl <| la rfl <| la rfl ?_
 obtain ⟨b1, hb_1, h⟩ := bs h
 refine WL.cutN 6 [(15, .bool b1), (1, .pointer (some ⟨b_1, 0, none⟩))] ?_ (fun K => ?_)
 rotate_left
 ·refine spl 9 rfl hb_1 (fun c1 hb_1 => ?_) (fun c1 hb_1 => ?_)
  ·refine la rfl <| la rfl <| la rfl <| la rfl <| la rfl <| la rfl ?_
   cases hb_1
   exact kk K ⟨rfl, rfl, trivial⟩
  ·refine ly rfl rfl <| lf Fld_26_1 rfl rfl rfl <| ly rfl rfl <| lo T1_24 0 rfl <| ly rfl rfl <| lq (q_lenR Sl_24 rfl rfl ph0_0) rfl <| ly rfl rfl ?_
   obtain ⟨x2, hx2, hb_1⟩ := bs hb_1
   refine lp (p_call Fun_81 rfl (fun w1 hw => m_i_inRange_ok hw.fro N (p0.Rules.length : Int) 1 12 hx2)) rfl <| ly rfl rfl <| la rfl <| la rfl ?_
   cases hb_1
   exact kk K ⟨rfl, rfl, trivial⟩
 refine en ?_
 refine cdh rfl h (fun c2 h => ?_) (fun c2 h => ?_)
 ·refine sr <| la rfl <| en ?_
  refine WT.ret Tryz.func35 (resOk.one rfl) (fun w1 hw => ?_)
  subst hb0
  cases h
  exact post_of_St hw
 refine WT.skip <| sq <| sr <| lf Fld_26_1 rfl rfl rfl <| lo T1_24 0 rfl <| lq (q_lenR Sl_24 rfl rfl ph0_0) rfl <| la rfl <| en <| blk ?_
 refine loop_in (σ := Int) (fun s => [(1, .pointer (some ⟨b_1, 0, none⟩)), (17, pv0_0), (18, .int .i64 (p0.Rules.length : Int)), (19, .int .i64 s)]) (fun s => St w0 Φ [(b_1, .cells #[.string p0.Name, pv0_0] 26 (0, 0))] []) (fun m s => m_i_DefOk_l1 N p0 m s = some r) (0) N h ⟨rfl, rfl, rfl, rfl, trivial⟩ (fun w1 hw => (hw.sel (js := []) rfl).selO (js := [0]) rfl) (fun s hm => none_ne hm) (fun n1 ih1 s hm => ?_)
 revert hm; revert s; intro s1 hm
 have h : m_i_DefOk_l1 N p0 (n1 + 1) s1 = some r := hm
 show WT _ _ [(1, .pointer (some ⟨b_1, 0, none⟩)), (17, pv0_0), (18, .int .i64 (p0.Rules.length : Int)), (19, .int .i64 s1)] (St w0 Φ [(b_1, .cells #[.string p0.Name, pv0_0] 26 (0, 0))] [])
 unfold m_i_DefOk_l1 at h
 refine sr <| la rfl <| en <| sq ?_
 refine cdh rfl h (fun c3 h => ?_) (fun c3 h => ?_)
 ·refine WT.skip <| sq <| blk <| sr <| la rfl ?_
  obtain ⟨x3, hx3, h⟩ := bs h
  obtain ⟨cs1, F1, -, g1, hb1, hs1, r1⟩ := ph0_0.el (idx_some hx3).2.2
  obtain ⟨v1, G1, v2, G2, v3, G3, rfl, rfl, h1, h2, h3⟩ := r1
  refine lq (q_indexAddr Sl_24 rfl rfl ph0_0 hx3) rfl <| lg5 0 Tn_40 g1 rfl rfl ?_
  refine ln (nz Zr_40) rfl (fun b_2 => ?_)
  refine la rfl <| soN 0 Sz_40 rfl ⟨rfl, rfl, h1.one, h2.one, h3.one, trivial⟩ rfl ?_
  refine en <| sr <| ld5 Tn_40 0 rfl ?_
  obtain ⟨x4, hx4, h⟩ := bs h
  refine lp (p_call Fun_42 rfl (fun w1 hw => m_i_RuleOk_ok hw.fro N x3 h1 h2 h3 hx4)) rfl <| la rfl <| la rfl ?_
  obtain ⟨b2, hb_2, h⟩ := bs h
  refine WL.cutN 7 [(34, .bool b2), (1, .pointer (some ⟨b_1, 0, none⟩)), (17, pv0_0), (18, .int .i64 (p0.Rules.length : Int)), (19, .int .i64 s1)] ?_ (fun K => ?_)
  rotate_left
  ·refine spl 27 rfl hb_2 (fun c4 hb_2 => ?_) (fun c4 hb_2 => ?_)
   ·refine la rfl <| la rfl <| la rfl <| la rfl <| la rfl <| la rfl <| la rfl ?_
    cases hb_2
    exact kk K ⟨rfl, rfl, rfl, rfl, rfl, trivial⟩
   ·refine ly rfl rfl <| ld2 Tn_26 1 rfl <| ly rfl rfl <| lf Fld_40_0 rfl rfl rfl <| ly rfl rfl <| lo T1_9 0 rfl <| ly rfl rfl ?_
    obtain ⟨x5, hx5, hb_2⟩ := bs hb_2
    refine lp (p_call Fun_82 rfl (fun w1 hw => m_i_RuleAt_ok hw.fro N p0 x3.Name ph0_0 hx5)) rfl <| ly rfl rfl <| la rfl <| ly rfl rfl <| la rfl <| la rfl ?_
    cases hb_2
    exact kk K ⟨rfl, rfl, rfl, rfl, rfl, trivial⟩
  refine en ?_
  refine cdh rfl h (fun c5 h => ?_) (fun c5 h => ?_)
  ·refine sr <| la rfl <| en ?_
   refine WT.ret Tryz.func35 (resOk.one rfl) (fun w1 hw => ?_)
   subst hb0
   cases h
   exact post_of_St hw
  refine WT.skip <| ib <| rgn <| la rfl <| la rfl <| en ?_
  exact lback (ih1 (IntKind.i64.wrap (s1 + 1)) h) ⟨rfl, rfl, rfl, rfl, trivial⟩ (fun w1 hw => (hw.sel (js := []) rfl).selO (js := [1]) rfl)
 refine xt rfl <| sr <| la rfl <| en ?_
 refine WT.ret Tryz.func35 (resOk.one rfl) (fun w1 hw => ?_)
 subst hb0
 cases h
 exact post_of_St hw
theorem m_i_FactOk_ok {Φ : Hp} {w : World} (hΦ : In Φ w) (N : Nat) (p0 : TFact) {pv0_0 : Value} {pG0_0 : List Nat} (ph0_0 : RSl RTVal 3 Φ pG0_0 pv0_0 p0.Fields) {r : Bool} (h : m_i_FactOk N p0 = some r) :
  Calls Tryz.prog 83 [.agg [.string p0.Kind, pv0_0].toArray].toArray w (Post (.bool r) w) := by
 refine enter Tryz.func83 rfl Tryz.ntmps83 rfl (St.start0 hΦ) ?_
 generalize hb0 : (⟨w, [], Φ⟩ : Base) = w0
 unfold m_i_FactOk at h
 refine sr ?_
 refine ln (nb rfl) rfl (fun b_1 => ?_)
 refine la rfl <| en <| sq <| sr <| lf Fld_123_0 rfl rfl rfl <| lo T1_9 0 rfl ?_
 obtain ⟨x1, hx1, h⟩ := bs h
 refine lp (p_call Fun_80 rfl (fun w1 hw => m_i_NameOk_ok hw.fro N p0.Kind hx1)) rfl <| la rfl <| la rfl ?_
 obtain ⟨b1, hb_1, h⟩ := bs h
 refine WL.cutN 5 [(14, .bool b1), (1, .pointer (some ⟨b_1, 0, none⟩))] ?_ (fun K => ?_)
 rotate_left
 ·refine spl 9 rfl hb_1 (fun c1 hb_1 => ?_) (fun c1 hb_1 => ?_)
  ·refine la rfl <| la rfl <| la rfl <| la rfl <| la rfl ?_
   cases hb_1
   exact kk K ⟨rfl, rfl, trivial⟩
  ·refine ly rfl rfl <| lf Fld_123_1 rfl rfl rfl <| ly rfl rfl <| lo T1_121 0 rfl <| ly rfl rfl <| lq (q_lenR Sl_121 rfl rfl ph0_0) rfl <| ly rfl rfl <| la rfl <| la rfl ?_
   cases hb_1
   exact kk K ⟨rfl, rfl, trivial⟩
 refine en ?_
 refine cdh rfl h (fun c2 h => ?_) (fun c2 h => ?_)
 ·refine sr <| la rfl <| en ?_
  refine WT.ret Tryz.func83 (resOk.one rfl) (fun w1 hw => ?_)
  subst hb0
  cases h
  exact post_of_St hw
 refine WT.skip <| sq <| sr <| lf Fld_123_1 rfl rfl rfl <| lo T1_121 0 rfl <| lq (q_lenR Sl_121 rfl rfl ph0_0) rfl <| la rfl <| en <| blk ?_
 refine loop_in (σ := Int) (fun s => [(16, pv0_0), (17, .int .i64 (p0.Fields.length : Int)), (18, .int .i64 s)]) (fun s => St w0 Φ [] []) (fun m s => m_i_FactOk_l1 N p0 m s = some r) (0) N h ⟨rfl, rfl, rfl, trivial⟩ (fun w1 hw => (hw.sel (js := []) rfl).selO (js := []) rfl) (fun s hm => none_ne hm) (fun n1 ih1 s hm => ?_)
 revert hm; revert s; intro s1 hm
 have h : m_i_FactOk_l1 N p0 (n1 + 1) s1 = some r := hm
 show WT _ _ [(16, pv0_0), (17, .int .i64 (p0.Fields.length : Int)), (18, .int .i64 s1)] (St w0 Φ [] [])
 unfold m_i_FactOk_l1 at h
 refine sr <| la rfl <| en <| sq ?_
 refine cdh rfl h (fun c3 h => ?_) (fun c3 h => ?_)
 ·refine WT.skip <| sq <| blk <| sr ?_
  obtain ⟨x2, hx2, h⟩ := bs h
  obtain ⟨cs1, F1, -, g1, hb1, hs1, r1⟩ := ph0_0.el (idx_some hx2).2.2
  obtain ⟨rfl, -⟩ := r1
  refine lq (q_indexAddr Sl_121 rfl rfl ph0_0 hx2) rfl <| lg3 0 Tn_85 g1 rfl rfl ?_
  refine ln (nz Zr_85) rfl (fun b_2 => ?_)
  refine soN 0 Sz_85 rfl ⟨rfl, rfl, rfl, trivial⟩ rfl ?_
  refine en <| sr <| ld3 Tn_85 0 rfl ?_
  obtain ⟨x3, hx3, h⟩ := bs h
  refine lp (p_call Fun_135 rfl (fun w1 hw => m_i_ValOk_ok hw.fro N x2 hx3)) rfl <| la rfl <| en ?_
  refine cdh rfl h (fun c4 h => ?_) (fun c4 h => ?_)
  ·refine sr <| la rfl <| en ?_
   refine WT.ret Tryz.func83 (resOk.one rfl) (fun w1 hw => ?_)
   subst hb0
   cases h
   exact post_of_St hw
  refine WT.skip <| ib <| rgn <| la rfl <| la rfl <| en ?_
  exact lback (ih1 (IntKind.i64.wrap (s1 + 1)) h) ⟨rfl, rfl, rfl, trivial⟩ (fun w1 hw => (hw.sel (js := []) rfl).selO (js := []) rfl)
 refine xt rfl <| sr <| la rfl <| en ?_
 refine WT.ret Tryz.func83 (resOk.one rfl) (fun w1 hw => ?_)
 subst hb0
 cases h
 exact post_of_St hw
theorem m_sl_Equal_Si_Val_i_Val_ok {Φ : Hp} {w : World} (hΦ : In Φ w) (N : Nat) (p0 : (List TVal)) (p1 : (List TVal)) {pv0 pv1 : Value} {pG0 pG1 : List Nat} (ph0 : RSl RTVal 3 Φ pG0 pv0 p0) (ph1 : RSl RTVal 3 Φ pG1 pv1 p1) {r : Bool} (h : m_sl_Equal_Si_Val_i_Val N p0 p1 = some r) :
  Calls Tryz.prog 136 [pv0, pv1].toArray w (Post (.bool r) w) := by
 refine enter Tryz.func136 rfl Tryz.ntmps136 rfl (St.start0 hΦ) ?_
 generalize hb0 : (⟨w, [], Φ⟩ : Base) = w0
 unfold m_sl_Equal_Si_Val_i_Val at h
 refine sr <| la rfl <| en <| sq <| sr <| la rfl <| lq (q_lenR Sl_121 rfl rfl ph0) rfl <| la rfl <| lq (q_lenR Sl_121 rfl rfl ph1) rfl <| la rfl <| en ?_
 refine cdh rfl h (fun c1 h => ?_) (fun c1 h => ?_)
 ·refine sr <| la rfl <| en ?_
  refine WT.ret Tryz.func136 (resOk.one rfl) (fun w1 hw => ?_)
  subst hb0
  cases h
  exact post_of_St hw
 refine WT.skip <| sq <| sr <| la rfl <| lq (q_lenR Sl_121 rfl rfl ph0) rfl <| la rfl <| en <| blk ?_
 refine loop_in (σ := Int) (fun s => [(0, pv0), (1, pv1), (12, .int .i64 (p0.length : Int)), (13, .int .i64 s)]) (fun s => St w0 Φ [] []) (fun m s => m_sl_Equal_Si_Val_i_Val_l1 N p0 p1 m s = some r) (0) N h ⟨rfl, rfl, rfl, rfl, trivial⟩ (fun w1 hw => (hw.sel (js := []) rfl).selO (js := []) rfl) (fun s hm => none_ne hm) (fun n1 ih1 s hm => ?_)
 revert hm; revert s; intro s1 hm
 have h : m_sl_Equal_Si_Val_i_Val_l1 N p0 p1 (n1 + 1) s1 = some r := hm
 show WT _ _ [(0, pv0), (1, pv1), (12, .int .i64 (p0.length : Int)), (13, .int .i64 s1)] (St w0 Φ [] [])
 unfold m_sl_Equal_Si_Val_i_Val_l1 at h
 refine sr <| la rfl <| en <| sq ?_
 refine cdh rfl h (fun c2 h => ?_) (fun c2 h => ?_)
 ·refine WT.skip <| sq <| blk <| sr <| la rfl <| la rfl <| en <| sq <| WT.draw mixed (by kernel_rfl) (fun _ h => h.drew) <| qq (q_move rfl) rfl <| qq (q_move rfl) rfl ?_
  obtain ⟨x1, hx1, h⟩ := bs h
  obtain ⟨cs1, F1, -, g1, hb1, hs1, r1⟩ := ph0.el (idx_some hx1).2.2
  obtain ⟨rfl, -⟩ := r1
  refine qq (q_indexAddr Sl_121 rfl rfl ph0 hx1) rfl <| qq (q_loadN Tn_85 rfl (fun w1 hw => (g1.of_eq 0 3 rfl rfl : rg _ _ _ [.int .i64 x1.K, .int .i64 x1.N, .string x1.S]).rangeAt hw.fro) rfl) rfl <| qq (q_move rfl) rfl <| qq (q_move rfl) rfl ?_
  obtain ⟨x2, hx2, h⟩ := bs h
  obtain ⟨cs2, F2, -, g2, hb2, hs2, r2⟩ := ph1.el (idx_some hx2).2.2
  obtain ⟨rfl, -⟩ := r2
  refine qq (q_indexAddr Sl_121 rfl rfl ph1 hx2) rfl <| qq (q_loadN Tn_85 rfl (fun w1 hw => (g2.of_eq 0 3 rfl rfl : rg _ _ _ [.int .i64 x2.K, .int .i64 x2.N, .string x2.S]).rangeAt hw.fro) rfl) rfl <| qq (q_neA EqT_85 rfl rfl rfl (r := eqT_TVal x1 x2) rfl) rfl <| WQ.nil ?_
  refine cdh rfl h (fun c3 h => ?_) (fun c3 h => ?_)
  ·refine sr <| la rfl <| en ?_
   refine WT.ret Tryz.func136 (resOk.one rfl) (fun w1 hw => ?_)
   subst hb0
   cases h
   exact post_of_St hw
  refine WT.skip <| ib <| rgn <| la rfl <| la rfl <| en ?_
  exact lback (ih1 (IntKind.i64.wrap (s1 + 1)) h) ⟨rfl, rfl, rfl, rfl, trivial⟩ (fun w1 hw => (hw.sel (js := []) rfl).selO (js := []) rfl)
 refine xt rfl <| sr <| la rfl <| en ?_
 refine WT.ret Tryz.func136 (resOk.one rfl) (fun w1 hw => ?_)
 subst hb0
 cases h
 exact post_of_St hw
theorem m_i_SameFact_ok {Φ : Hp} {w : World} (hΦ : In Φ w) (N : Nat) (p0 : TFact) (p1 : TFact) {pv0_0 pv1_0 : Value} {pG0_0 pG1_0 : List Nat} (ph0_0 : RSl RTVal 3 Φ pG0_0 pv0_0 p0.Fields) (ph1_0 : RSl RTVal 3 Φ pG1_0 pv1_0 p1.Fields) {r : Bool} (h : m_i_SameFact N p0 p1 = some r) :
  Calls Tryz.prog 84 [.agg [.string p0.Kind, pv0_0].toArray, .agg [.string p1.Kind, pv1_0].toArray].toArray w (Post (.bool r) w) := by
 refine enter Tryz.func84 rfl Tryz.ntmps84 rfl (St.start0 hΦ) ?_
 unfold m_i_SameFact at h
 refine sr ?_
 refine ln (nb rfl) rfl (fun b_1 => ?_)
 refine ln (nb rfl) rfl (fun b_2 => ?_)
 refine la rfl <| en <| sr <| lf Fld_123_0 rfl rfl rfl <| lo T1_9 1 rfl <| lf Fld_123_0 rfl rfl rfl <| lo T1_9 0 rfl <| la rfl <| la rfl ?_
 obtain ⟨b1, hb_1, h⟩ := bs h
 refine WL.cutN 6 [(16, .bool b1), (4, .bool false)] ?_ (fun K => ?_)
 rotate_left
 ·refine spl 10 rfl hb_1 (fun c1 hb_1 => ?_) (fun c1 hb_1 => ?_)
  ·refine ly rfl rfl <| lf Fld_123_1 rfl rfl rfl <| ly rfl rfl <| lo T1_121 1 rfl <| ly rfl rfl <| lf Fld_123_1 rfl rfl rfl <| ly rfl rfl <| lo T1_121 0 rfl <| ly rfl rfl ?_
   obtain ⟨x1, hx1, hb_1⟩ := bs hb_1
   refine lp (p_call Fun_136 rfl (fun w1 hw => m_sl_Equal_Si_Val_i_Val_ok hw.fro N p0.Fields p1.Fields ph0_0 ph1_0 hx1)) rfl <| la rfl ?_
   cases hb_1
   exact kk K ⟨rfl, rfl, trivial⟩
  ·refine la rfl <| la rfl <| la rfl <| la rfl <| la rfl <| la rfl ?_
   cases hb_1
   exact kk K ⟨rfl, rfl, trivial⟩
 refine la rfl <| en ?_
 refine WT.ret Tryz.func84 (resOk.one rfl) (fun w1 hw => ?_)
 cases h
 exact post_of_St hw
theorem m_i_StoreOk_ok {Φ : Hp} {w : World} (hΦ : In Φ w) (N : Nat) (p0 : TStore) {pv0_0 : Value} {pG0_0 : List Nat} (ph0_0 : RSl RTItem 3 Φ pG0_0 pv0_0 p0.Items) {r : Bool} (h : m_i_StoreOk N p0 = some r) :
  Calls Tryz.prog 36 [.agg [pv0_0, .int .i64 p0.Next].toArray].toArray w (Post (.bool r) w) := by
 refine enter Tryz.func36 rfl Tryz.ntmps36 rfl (St.start0 hΦ) ?_
 generalize hb0 : (⟨w, [], Φ⟩ : Base) = w0
 unfold m_i_StoreOk at h
 refine sr ?_
 refine ln (nb rfl) rfl (fun b_1 => ?_)
 refine la rfl <| en <| sq <| sr <| lf Fld_29_0 rfl rfl rfl <| lo T1_27 0 rfl <| lq (q_lenR Sl_27 rfl rfl ph0_0) rfl <| la rfl <| la rfl ?_
 obtain ⟨b1, hb_1, h⟩ := bs h
 refine WL.cutN 5 [(16, .bool b1), (1, .pointer (some ⟨b_1, 0, none⟩))] ?_ (fun K => ?_)
 rotate_left
 ·refine spl 11 rfl hb_1 (fun c1 hb_1 => ?_) (fun c1 hb_1 => ?_)
  ·refine la rfl <| la rfl <| la rfl <| la rfl <| la rfl ?_
   cases hb_1
   exact kk K ⟨rfl, rfl, trivial⟩
  ·refine ly rfl rfl <| lf Fld_29_1 rfl rfl rfl <| ly rfl rfl <| lo T1_3 0 rfl <| ly rfl rfl ?_
   obtain ⟨x1, hx1, hb_1⟩ := bs hb_1
   refine lp (p_call Fun_81 rfl (fun w1 hw => m_i_inRange_ok hw.fro N p0.Next 1 1000000 hx1)) rfl <| ly rfl rfl <| la rfl <| la rfl ?_
   cases hb_1
   exact kk K ⟨rfl, rfl, trivial⟩
 refine en ?_
 refine cdh rfl h (fun c2 h => ?_) (fun c2 h => ?_)
 ·refine sr <| la rfl <| en ?_
  refine WT.ret Tryz.func36 (resOk.one rfl) (fun w1 hw => ?_)
  subst hb0
  cases h
  exact post_of_St hw
 refine WT.skip <| sq <| sr <| lf Fld_29_0 rfl rfl rfl <| lo T1_27 0 rfl <| lq (q_lenR Sl_27 rfl rfl ph0_0) rfl <| la rfl <| en <| blk ?_
 refine loop_in (σ := Int) (fun s => [(1, .pointer (some ⟨b_1, 0, none⟩)), (18, pv0_0), (19, .int .i64 (p0.Items.length : Int)), (20, .int .i64 s)]) (fun s => St w0 Φ [(b_1, .cells #[pv0_0, .int .i64 p0.Next] 29 (0, 0))] []) (fun m s => m_i_StoreOk_l1 N p0 m s = some r) (0) N h ⟨rfl, rfl, rfl, rfl, trivial⟩ (fun w1 hw => (hw.sel (js := []) rfl).selO (js := [0]) rfl) (fun s hm => none_ne hm) (fun n1 ih1 s hm => ?_)
 revert hm; revert s; intro s1 hm
 have h : m_i_StoreOk_l1 N p0 (n1 + 1) s1 = some r := hm
 show WT _ _ [(1, .pointer (some ⟨b_1, 0, none⟩)), (18, pv0_0), (19, .int .i64 (p0.Items.length : Int)), (20, .int .i64 s1)] (St w0 Φ [(b_1, .cells #[pv0_0, .int .i64 p0.Next] 29 (0, 0))] [])
 unfold m_i_StoreOk_l1 at h
 refine sr <| la rfl <| en <| sq ?_
 refine cdh rfl h (fun c3 h => ?_) (fun c3 h => ?_)
 ·refine WT.skip <| sq <| blk <| sr <| la rfl ?_
  obtain ⟨x2, hx2, h⟩ := bs h
  obtain ⟨cs1, F1, -, g1, hb1, hs1, r1⟩ := ph0_0.el (idx_some hx2).2.2
  obtain ⟨v1, G1, rfl, hq1, h1⟩ := r1
  obtain rfl := hq1.symm
  refine lq (q_indexAddr Sl_27 rfl rfl ph0_0 hx2) rfl <| lg3 0 Tn_125 g1 rfl rfl ?_
  refine ln (nz Zr_125) rfl (fun b_2 => ?_)
  refine la rfl <| soN 0 Sz_125 rfl ⟨rfl, rfl, h1.one, trivial⟩ rfl ?_
  refine en <| sq <| sq <| WT.draw mixed (by kernel_rfl) (fun _ h => h.drew) <| qq (q_fieldAddr Fld_125_1 rfl) rfl <| qq (q_loadN Tn_123 rfl (fun w1 hw => hw.rgO (i := 0) rfl 1 2 [.string x2.F.Kind, v1] rfl) rfl) rfl ?_
  obtain ⟨x3, hx3, h⟩ := bs h
  refine qp (p_call Fun_83 rfl (fun w1 hw => m_i_FactOk_ok hw.fro N x2.F h1 hx3)) rfl <| qq (q_not rfl) rfl <| qq (q_move rfl) rfl ?_
  obtain ⟨b2, hb_2, h⟩ := bs h
  refine WQ.cutN 8 [(37, .bool b2), (1, .pointer (some ⟨b_1, 0, none⟩)), (3, .int .i64 s1), (4, .pointer (some ⟨b_2, 0, none⟩)), (18, pv0_0), (19, .int .i64 (p0.Items.length : Int)), (20, .int .i64 s1)] ?_ (fun K => ?_)
  rotate_left
  ·refine WQ.split (d := 29) rfl (fun c4 => ?_) (fun c4 => ?_)
   ·replace hb_2 := ite_t hb_2 c4
    refine WQ.no rfl rfl rfl rfl <| WQ.no rfl rfl rfl rfl <| WQ.no rfl rfl rfl rfl <| WQ.no rfl rfl rfl rfl <| WQ.no rfl rfl rfl rfl <| WQ.no rfl rfl rfl rfl <| WQ.no rfl rfl rfl rfl <| WQ.q (q_pick1 rfl rfl) rfl rfl rfl ?_
    cases hb_2
    exact WQ.keep (by exact ⟨rfl, rfl, rfl, rfl, rfl, rfl, rfl, trivial⟩) K
   ·replace hb_2 := ite_f hb_2 c4
    refine WQ.yes rfl rfl <| qq (q_fieldAddr Fld_125_0 rfl) rfl <| WQ.yes rfl rfl <| qq (q_load1 T1_3 rfl (fun w1 hw => hw.rgO (i := 0) rfl 0 1 [.int .i64 x2.Id] rfl)) rfl <| WQ.yes rfl rfl <| qq (q_fieldAddr Fld_29_1 rfl) rfl <| WQ.yes rfl rfl <| qq (q_load1 T1_3 rfl (fun w1 hw => hw.rgO (i := 1) rfl 1 1 [.int .i64 p0.Next] rfl)) rfl <| WQ.yes rfl rfl <| qq (q_sub rfl rfl) rfl <| WQ.yes rfl rfl ?_
    obtain ⟨x4, hx4, hb_2⟩ := bs hb_2
    refine qp (p_call Fun_81 rfl (fun w1 hw => m_i_inRange_ok hw.fro N x2.Id 1 (IntKind.i64.wrap (p0.Next - 1)) hx4)) rfl <| WQ.yes rfl rfl <| qq (q_not rfl) rfl <| WQ.q (q_pick0 rfl rfl) rfl rfl rfl ?_
    cases hb_2
    exact WQ.keep (by exact ⟨rfl, rfl, rfl, rfl, rfl, rfl, rfl, trivial⟩) K
  refine qq (q_move rfl) rfl ?_
  obtain ⟨b3, hb_3, h⟩ := bs h
  refine WQ.cutN 15 [(53, .bool b3), (1, .pointer (some ⟨b_1, 0, none⟩)), (3, .int .i64 s1), (4, .pointer (some ⟨b_2, 0, none⟩)), (18, pv0_0), (19, .int .i64 (p0.Items.length : Int)), (20, .int .i64 s1)] ?_ (fun K => ?_)
  rotate_left
  ·refine WQ.split (d := 38) rfl (fun c5 => ?_) (fun c5 => ?_)
   ·replace hb_3 := ite_t hb_3 c5
    refine WQ.no rfl rfl rfl rfl <| WQ.no rfl rfl rfl rfl <| WQ.no rfl rfl rfl rfl <| WQ.nox rfl rfl rfl rfl <| WQ.nox rfl rfl rfl rfl <| WQ.nox rfl rfl rfl rfl <| WQ.nox rfl rfl rfl rfl <| WQ.nox rfl rfl rfl rfl <| WQ.nox rfl rfl rfl rfl <| WQ.nox rfl rfl rfl rfl <| WQ.nox rfl rfl rfl rfl <| WQ.nox rfl rfl rfl rfl <| WQ.nox rfl rfl rfl rfl <| WQ.no rfl rfl rfl rfl <| WQ.q (q_pick1 rfl rfl) rfl rfl rfl ?_
    cases hb_3
    exact WQ.keep (by exact ⟨rfl, rfl, rfl, rfl, rfl, rfl, rfl, trivial⟩) K
   ·replace hb_3 := ite_f hb_3 c5
    refine WQ.yes rfl rfl <| qq (q_move rfl) rfl <| WQ.yes rfl rfl <| qq (q_gtr rfl rfl) rfl <| WQ.yes rfl rfl <| qq (q_move rfl) rfl ?_
    obtain ⟨b4, hb_4, hb_3⟩ := bs hb_3
    refine WQ.cutN 11 [(52, .bool b4), (1, .pointer (some ⟨b_1, 0, none⟩)), (3, .int .i64 s1), (4, .pointer (some ⟨b_2, 0, none⟩)), (18, pv0_0), (19, .int .i64 (p0.Items.length : Int)), (20, .int .i64 s1), (38, .bool false)] ?_ (fun K => ?_)
    rotate_left
    ·refine WQ.split (d := 41) rfl (fun c6 => ?_) (fun c6 => ?_)
     ·replace hb_4 := ite_t hb_4 c6
      refine WQ.yes rfl rfl <| qq (q_fieldAddr Fld_125_0 rfl) rfl <| WQ.yes rfl rfl <| qq (q_load1 T1_3 rfl (fun w1 hw => hw.rgO (i := 0) rfl 0 1 [.int .i64 x2.Id] rfl)) rfl <| WQ.yes rfl rfl <| qq (q_fieldAddr Fld_29_0 rfl) rfl <| WQ.yes rfl rfl <| qq (q_load1 T1_27 rfl (fun w1 hw => hw.rgO (i := 1) rfl 0 1 [pv0_0] rfl)) rfl <| WQ.yes rfl rfl <| qq (q_move rfl) rfl <| WQ.yes rfl rfl <| qq (q_sub rfl rfl) rfl <| WQ.yes rfl rfl ?_
      obtain ⟨x5, hx5, hb_4⟩ := bs hb_4
      obtain ⟨cs2, F2, -, g2, hb2, hs2, r2⟩ := ph0_0.el (idx_some hx5).2.2
      obtain ⟨v2, G2, rfl, hq2, h2⟩ := r2
      obtain rfl := hq2.symm
      refine qq (q_indexAddr Sl_27 rfl rfl ph0_0 hx5) rfl <| WQ.yes rfl rfl <| qq (q_fieldAddr Fld_125_0 rfl) rfl <| WQ.yes rfl rfl <| qq (q_load1 T1_3 rfl (fun w1 hw => (g2.of_eq 0 1 rfl rfl : rg _ _ _ [.int .i64 x5.Id]).rangeAt hw.fro)) rfl <| WQ.yes rfl rfl <| qq (q_leq rfl rfl) rfl <| WQ.yes rfl rfl <| WQ.q (q_pick1 rfl rfl) rfl rfl rfl ?_
      cases hb_4
      exact WQ.keep (by exact ⟨rfl, rfl, rfl, rfl, rfl, rfl, rfl, rfl, trivial⟩) K
     ·replace hb_4 := ite_f hb_4 c6
      refine WQ.no rfl rfl rfl rfl <| WQ.no rfl rfl rfl rfl <| WQ.no rfl rfl rfl rfl <| WQ.no rfl rfl rfl rfl <| WQ.no rfl rfl rfl rfl <| WQ.no rfl rfl rfl rfl <| WQ.no rfl rfl rfl rfl <| WQ.no rfl rfl rfl rfl <| WQ.no rfl rfl rfl rfl <| WQ.no rfl rfl rfl rfl <| WQ.yes rfl rfl <| WQ.q (q_pick0 rfl rfl) rfl rfl rfl ?_
      cases hb_4
      exact WQ.keep (by exact ⟨rfl, rfl, rfl, rfl, rfl, rfl, rfl, rfl, trivial⟩) K
    refine WQ.q (q_pick0 rfl rfl) rfl rfl rfl ?_
    cases hb_3
    exact WQ.keep (by exact ⟨rfl, rfl, rfl, rfl, rfl, rfl, rfl, trivial⟩) K
  refine WQ.nil ?_
  refine cdh rfl h (fun c7 h => ?_) (fun c7 h => ?_)
  ·refine sr <| la rfl <| en ?_
   refine WT.ret Tryz.func36 (resOk.one rfl) (fun w1 hw => ?_)
   subst hb0
   cases h
   exact post_of_St hw
  refine WT.skip <| sr <| lf Fld_29_0 rfl rfl rfl <| lo T1_27 1 rfl <| la rfl ?_
  obtain ⟨x6, hx6, h⟩ := bs h
  refine lq (q_slH Sl_27 rfl rfl ph0_0 hx6) rfl ?_
  obtain ⟨F3, h3, hs3⟩ := ph0_0.sub hx6
  refine lq (q_lenR Sl_27 rfl rfl h3) rfl <| la rfl <| en <| blk ?_
  refine loop_in (σ := Int) (fun s => [(1, .pointer (some ⟨b_1, 0, none⟩)), (4, .pointer (some ⟨b_2, 0, none⟩)), (18, pv0_0), (19, .int .i64 (p0.Items.length : Int)), (20, .int .i64 s1), (57, (slc pv0_0 (0 : Int).toNat s1.toNat 3)), (58, .int .i64 (x6.length : Int)), (59, .int .i64 s)]) (fun s => St w0 Φ [(b_2, .cells #[.int .i64 x2.Id, .string x2.F.Kind, v1] 125 (0, 0)), (b_1, .cells #[pv0_0, .int .i64 p0.Next] 29 (0, 0))] []) (fun m s => m_i_StoreOk_l2 N s1 (m_i_StoreOk_l1 N p0 n1) x2 x6 m s = some r) (0) N h ⟨rfl, rfl, rfl, rfl, rfl, rfl, rfl, rfl, trivial⟩ (fun w1 hw => (hw.sel (js := []) rfl).selO (js := [0, 0]) rfl) (fun s hm => none_ne hm) (fun n2 ih2 s hm => ?_)
  revert hm; revert s; intro s2 hm
  have h : m_i_StoreOk_l2 N s1 (m_i_StoreOk_l1 N p0 n1) x2 x6 (n2 + 1) s2 = some r := hm
  show WT _ _ [(1, .pointer (some ⟨b_1, 0, none⟩)), (4, .pointer (some ⟨b_2, 0, none⟩)), (18, pv0_0), (19, .int .i64 (p0.Items.length : Int)), (20, .int .i64 s1), (57, (slc pv0_0 (0 : Int).toNat s1.toNat 3)), (58, .int .i64 (x6.length : Int)), (59, .int .i64 s2)] (St w0 Φ [(b_2, .cells #[.int .i64 x2.Id, .string x2.F.Kind, v1] 125 (0, 0)), (b_1, .cells #[pv0_0, .int .i64 p0.Next] 29 (0, 0))] [])
  unfold m_i_StoreOk_l2 at h
  refine sr <| la rfl <| en <| sq ?_
  refine cdh rfl h (fun c8 h => ?_) (fun c8 h => ?_)
  ·refine WT.skip <| sq <| blk <| sr ?_
   obtain ⟨x7, hx7, h⟩ := bs h
   obtain ⟨cs3, F4, -, g3, hb3, hs4, r3⟩ := h3.el (idx_some hx7).2.2
   obtain ⟨v3, G3, rfl, hq3, h4⟩ := r3
   obtain rfl := hq3.symm
   refine lq (q_indexAddr Sl_27 rfl rfl h3 hx7) rfl <| lg3 0 Tn_125 g3 rfl rfl ?_
   refine ln (nz Zr_125) rfl (fun b_3 => ?_)
   refine soN 0 Sz_125 rfl ⟨rfl, rfl, h4.one, trivial⟩ rfl ?_
   refine en <| sr <| lf Fld_125_1 rfl rfl rfl <| ld2 Tn_123 1 rfl <| lf Fld_125_1 rfl rfl rfl <| ld2 Tn_123 0 rfl ?_
   obtain ⟨x8, hx8, h⟩ := bs h
   refine lp (p_call Fun_84 rfl (fun w1 hw => m_i_SameFact_ok hw.fro N x2.F x7.F h1 h4 hx8)) rfl <| en ?_
   refine cdh rfl h (fun c9 h => ?_) (fun c9 h => ?_)
   ·refine sr <| la rfl <| en ?_
    refine WT.ret Tryz.func36 (resOk.one rfl) (fun w1 hw => ?_)
    subst hb0
    cases h
    exact post_of_St hw
   refine WT.skip <| ib <| rgn <| la rfl <| la rfl <| en ?_
   exact lback (ih2 (IntKind.i64.wrap (s2 + 1)) h) ⟨rfl, rfl, rfl, rfl, rfl, rfl, rfl, rfl, trivial⟩ (fun w1 hw => (hw.sel (js := []) rfl).selO (js := [1, 1]) rfl)
  refine xt rfl <| ib <| rgn <| la rfl <| la rfl <| en ?_
  exact lback (ih1 (IntKind.i64.wrap (s1 + 1)) h) ⟨rfl, rfl, rfl, rfl, trivial⟩ (fun w1 hw => (hw.sel (js := []) rfl).selO (js := [1]) rfl)
 refine xt rfl <| sr <| la rfl <| en ?_
 refine WT.ret Tryz.func36 (resOk.one rfl) (fun w1 hw => ?_)
 subst hb0
 cases h
 exact post_of_St hw
theorem m_i_pats_ok {Φ : Hp} {w : World} (hΦ : In Φ w) (N : Nat) (p0 : TRule) (p1 : Bool) {pv0_0 pv0_1 pv0_2 : Value} {pG0_0 pG0_1 pG0_2 : List Nat} (ph0_0 : RSl RTPat 3 Φ pG0_0 pv0_0 p0.Pats) (ph0_1 : RSl RTCond 11 Φ pG0_1 pv0_1 p0.Conds) (ph0_2 : RSl RTAct 5 Φ pG0_2 pv0_2 p0.Acts) {r : (List TPat)} (h : m_i_pats N p0 p1 = some r) :
  Calls Tryz.prog 149 [.agg [.string p0.Name, .int .i64 p0.Sal, pv0_0, pv0_1, pv0_2].toArray, .bool p1].toArray w (PostG Φ w [] (fun Φ' Fs v => ∃ (sr_0_0 : Value) (Dr_0_0 : List Nat), v = sr_0_0 ∧ Fs = [ob sr_0_0] ∧ OSl RTPat 171 3 Φ' Dr_0_0 sr_0_0 r ∧ (∀ k ∈ Dr_0_0, k ∈ pG0_0))) := by
 refine enter Tryz.func149 rfl Tryz.ntmps149 rfl (St.start0 hΦ) ?_
 have pa0_0 := Old.mk hΦ ph0_0.kn (Dj.empty _)
 revert pa0_0
 generalize hb0 : (⟨w, [], Φ⟩ : Base) = w0
 intro pa0_0
 unfold m_i_pats at h
 refine sr ?_
 refine ln (nb rfl) rfl (fun b_1 => ?_)
 refine la rfl <| en <| sr <| la rfl <| en <| sq <| sr <| lf Fld_40_2 rfl rfl rfl <| lo T1_36 0 rfl <| lq (q_lenR Sl_36 rfl rfl ph0_0) rfl <| la rfl <| en <| blk <| WT.loop <| WT.conv (S' := St w0 Φ [(b_1, .cells #[.string p0.Name, .int .i64 p0.Sal, pv0_0, pv0_1, pv0_2] 40 (0, 0))] (ob (.slice none 0 0) :: [])) (fun w1 hw => hw.addNil) ?_
 have k1 := OSl.nil RTPat 171 3 Φ
 refine WT.mono (l' := [(1, .bool p1), (5, (.slice none 0 0)), (9, pv0_0), (10, .int .i64 (p0.Pats.length : Int)), (11, .int .i64 0)]) (S' := St w0 Φ [] [ob (.slice none 0 0)]) ⟨rfl, rfl, rfl, rfl, rfl, trivial⟩ (fun w1 hw => (hw.sel (js := [0]) rfl).selO (js := []) rfl) ?_
 refine loop_ind (σ := Hp × (List TPat) × Value × List Nat × Int) (fun s => [(1, .bool p1), (5, s.2.2.1), (9, pv0_0), (10, .int .i64 (p0.Pats.length : Int)), (11, .int .i64 s.2.2.2.2)]) (fun s => St w0 s.1 [] [ob s.2.2.1]) (fun m s => m_i_pats_l1 N p0 p1 m s.2.1 s.2.2.2.2 = some r ∧ (OSl RTPat 171 3 s.1 s.2.2.2.1 s.2.2.1 s.2.1) ∧ (∀ k ∈ s.2.2.2.1, k ∈ pG0_0) ∧ (RSl RTPat 3 s.1 pG0_0 pv0_0 p0.Pats)) (fun s hm => none_ne (show (none : Option ((List TPat))) = some r from hm.1)) (fun n1 ih1 s hm => ?_) N (Φ, ([] : List TPat), (.slice none 0 0), [], 0) ⟨h, k1, (by simp), ph0_0⟩
 obtain ⟨Φ_1, s1, u1, D1, s2⟩ := s
 obtain ⟨h, k2, i1, ph0_0⟩ := hm
 dsimp only at h k2 i1 ph0_0 ⊢
 unfold m_i_pats_l1 at h
 refine sr <| la rfl <| en <| sq ?_
 refine cdh rfl h (fun c1 h => ?_) (fun c1 h => ?_)
 ·refine WT.skip <| sq <| blk <| sr ?_
  obtain ⟨x1, hx1, h⟩ := bs h
  obtain ⟨cs1, F1, -, g1, hb1, hs1, r1⟩ := ph0_0.el (idx_some hx1).2.2
  obtain ⟨v1, G1, rfl, hq1, h1⟩ := r1
  obtain rfl := hq1.symm
  refine lq (q_indexAddr Sl_36 rfl rfl ph0_0 hx1) rfl <| lg3 0 Tn_171 g1 rfl rfl ?_
  refine ln (nz Zr_171) rfl (fun b_2 => ?_)
  refine soN 0 Sz_171 rfl ⟨rfl, h1.one, rfl, trivial⟩ rfl ?_
  refine en <| sr <| lf Fld_171_2 rfl rfl rfl <| lo T1_4 0 rfl <| la rfl <| lq (q_beq Bo_4 rfl rfl) rfl <| en ?_
  refine cdh rfl h (fun c2 h => ?_) (fun c2 h => ?_)
  ·refine rgn <| la rfl <| ld3 Tn_171 0 rfl ?_
   have rc1 : RC RTPat 3 Φ_1 ([G1] : List (List Nat)) [.string x1.Kind, v1, .bool x1.Not] ([x1] : List TPat) := RC.cons (c := [.string x1.Kind, v1, .bool x1.Not]) (cells := []) ⟨v1, G1, rfl, rfl, h1⟩ rfl (RC.nil _ _ _)
   refine le' (e_lit (vs := [(0, .agg [.string x1.Kind, v1, .bool x1.Not].toArray)]) (C := #[.string x1.Kind, v1, .bool x1.Not]) RTPat.lasts Sl_36 Zr_171 rfl rfl rfl rfl (fill_made MC_171_1 (fill_cons (C' := [.string x1.Kind, v1, .bool x1.Not]) rfl rfl rfl rfl rfl (fill_nil))) rfl rc1 rfl (RC.kn RTPat.knows rc1)) rfl (fun v2 Φ_2 D2 q1 => ?_)
   obtain ⟨fr1, h2⟩ := q1
   replace h2 : OSl RTPat 171 3 Φ_2 (G1) v2 ([x1] : List TPat) := by simpa [List.append_assoc] using h2
   replace ph0_0 := ph0_0.frame RTPat.lasts fr1 (Dj.empty _)
   replace k2 := k2.frame RTPat.lasts fr1 (Dj.empty _) (Dj.empty _)
   obtain ⟨x2, hx2, h⟩ := bs h
   refine le' (e_appO RTPat.lasts RTPat.one Sl_36 Ei_171 rfl rfl rfl rfl rfl (js := [1]) (Rr := [ob v2]) rfl k2 h2 (fun ap => (Dj.sub (ap.o pa0_0) i1)) (fun ap => (Dj.sub (Dj.sub (ap.o pa0_0) (fun k h => hs1 k h)) (fun k hk => (by simpa [List.append_assoc] using hk : k ∈ G1)))) hx2) rfl (fun v3 Φ_3 D3 q2 => ?_)
   obtain ⟨⟨ap1, fr2⟩, h3⟩ := q2
   replace ph0_0 := ph0_0.frame RTPat.lasts fr2 (ap1.o pa0_0)
   refine la rfl <| en <| ib <| rgn <| la rfl <| la rfl <| en ?_
   exact lback (ih1 (Φ_3, x2, v3, (D1 ++ (G1)), IntKind.i64.wrap (s2 + 1)) ⟨h, h3, (fun k hk => ((List.mem_append.1 hk).elim (fun h => (i1 k h)) (fun h => ((fun k h => hs1 k h) k ((fun k hk => (by simpa [List.append_assoc] using hk : k ∈ G1)) k h))))), ph0_0⟩) ⟨rfl, rfl, rfl, rfl, rfl, trivial⟩ (fun w1 hw => (hw.sel (js := [0]) rfl).selO (js := []) rfl)
  refine WT.skip <| ib <| rgn <| la rfl <| la rfl <| en ?_
  exact lback (ih1 (Φ_1, s1, u1, D1, IntKind.i64.wrap (s2 + 1)) ⟨h, k2, (fun k hk => (i1 k hk)), ph0_0⟩) ⟨rfl, rfl, rfl, rfl, rfl, trivial⟩ (fun w1 hw => (hw.sel (js := [0]) rfl).selO (js := []) rfl)
 refine xt rfl <| sr <| la rfl <| la rfl <| en ?_
 refine WT.ret Tryz.func149 (resOk.one rfl) (fun w1 hw => ?_)
 subst hb0
 cases h
 refine postG_of_St (js := [0]) hw rfl ⟨u1, D1, rfl, rfl, k2, (fun k hk => (i1 k hk))⟩
theorem m_sl_Clone_Si_Bind_i_Bind_ok {Φ : Hp} {w : World} (hΦ : In Φ w) (N : Nat) (p0 : (List TBind)) {pv0 : Value} {pG0 : List Nat} (ph0 : RSl RTBind 4 Φ pG0 pv0 p0) {r : (List TBind)} (h : m_sl_Clone_Si_Bind_i_Bind N p0 = some r) :
  Calls Tryz.prog 153 [pv0].toArray w (PostG Φ w [] (fun Φ' Fs v => ∃ (sr_0_0 : Value), v = sr_0_0 ∧ Fs = [ob sr_0_0] ∧ OSl RTBind 87 4 Φ' [] sr_0_0 r)) := by
 refine enter Tryz.func153 rfl Tryz.ntmps153 rfl (St.start0 hΦ) ?_
 unfold m_sl_Clone_Si_Bind_i_Bind at h
 refine sr <| la rfl <| en <| sq <| sq ?_
 rcases RSl.nilOr ph0 with ⟨hxs1, cc1, hv1⟩ | ⟨a1, cc1, hv1⟩
 ·replace h : some [] = some r := by simpa [hxs1, app] using h
  refine rgn <| la rfl <| lq (q_eqNil Sl_42 (congrArg some hv1) rfl) rfl <| en ?_
  refine cd rfl (fun c => ?_) (fun c => by simp at c)
  refine sr <| la rfl <| en ?_
  refine WT.ret Tryz.func153 (resOk.one rfl) (fun w1 hw => ?_)
  cases h
  replace hw := hw.addNil
  refine postG_of_St (js := [0]) hw rfl ⟨.slice none 0 0, rfl, rfl, OSl.nil _ _ _ _⟩
 refine rgn <| la rfl <| lq (q_eqNil Sl_42 (congrArg some hv1) rfl) rfl <| en ?_
 refine cd rfl (fun c => by simp at c) (fun c => ?_)
 refine WT.skip <| sr ?_
 refine le' (e_lit0 RTBind.lasts Sl_42 Zr_87 rfl rfl) rfl (fun v1 Φ_1 D1 q1 => ?_)
 obtain ⟨fr1, h1⟩ := q1
 replace ph0 := ph0.frame RTBind.lasts fr1 (Dj.empty _)
 refine la rfl ?_
 obtain ⟨x1, hx1, h⟩ := bs h
 refine le' (e_appF RTBind.lasts RTBind.one RTBind.flat Sl_42 Ei_87 rfl rfl rfl rfl rfl (js := [0]) (Rr := []) rfl h1 ph0 hx1) rfl (fun v2 Φ_2 D2 q2 => ?_)
 obtain ⟨⟨ap1, fr2⟩, h2⟩ := q2
 refine la rfl <| en ?_
 refine WT.ret Tryz.func153 (resOk.one rfl) (fun w1 hw => ?_)
 cases h
 refine postG_of_St (js := [0]) hw rfl ⟨v2, rfl, rfl, h2⟩
theorem m_i_BindOf_ok {Φ : Hp} {w : World} (hΦ : In Φ w) (N : Nat) (p0 : (List TBind)) (p1 : ByteArray) {pv0 : Value} {pG0 : List Nat} (ph0 : RSl RTBind 4 Φ pG0 pv0 p0) {r : TVal × Bool} (h : m_i_BindOf N p0 p1 = some r) :
  Calls Tryz.prog 186 [pv0, .string p1].toArray w (Post (.tuple #[.agg [.int .i64 r.1.K, .int .i64 r.1.N, .string r.1.S].toArray, .bool r.2]) w) := by
 refine enter Tryz.func186 rfl Tryz.ntmps186 rfl (St.start0 hΦ) ?_
 generalize hb0 : (⟨w, [], Φ⟩ : Base) = w0
 unfold m_i_BindOf at h
 refine sr ?_
 refine ln (nz Zr_85) rfl (fun b_1 => ?_)
 refine la rfl <| en <| sq <| sr <| la rfl <| lq (q_lenR Sl_42 rfl rfl ph0) rfl <| la rfl <| en <| blk ?_
 refine loop_in (σ := Int) (fun s => [(1, .string p1), (4, .pointer (some ⟨b_1, 0, none⟩)), (8, pv0), (9, .int .i64 (p0.length : Int)), (10, .int .i64 s)]) (fun s => St w0 Φ [(b_1, .cells #[.int .i64 0, .int .i64 0, .string (⟨#[]⟩ : ByteArray)] 85 (0, 0))] []) (fun m s => m_i_BindOf_l1 N p0 p1 m s = some r) (0) N h ⟨rfl, rfl, rfl, rfl, rfl, trivial⟩ (fun w1 hw => (hw.sel (js := []) rfl).selO (js := [0]) rfl) (fun s hm => none_ne hm) (fun n1 ih1 s hm => ?_)
 revert hm; revert s; intro s1 hm
 have h : m_i_BindOf_l1 N p0 p1 (n1 + 1) s1 = some r := hm
 show WT _ _ [(1, .string p1), (4, .pointer (some ⟨b_1, 0, none⟩)), (8, pv0), (9, .int .i64 (p0.length : Int)), (10, .int .i64 s1)] (St w0 Φ [(b_1, .cells #[.int .i64 0, .int .i64 0, .string (⟨#[]⟩ : ByteArray)] 85 (0, 0))] [])
 unfold m_i_BindOf_l1 at h
 refine sr <| la rfl <| en <| sq ?_
 refine cdh rfl h (fun c1 h => ?_) (fun c1 h => ?_)
 ·refine WT.skip <| sq <| blk <| sr ?_
  obtain ⟨x1, hx1, h⟩ := bs h
  obtain ⟨cs1, F1, -, g1, hb1, hs1, r1⟩ := ph0.el (idx_some hx1).2.2
  obtain ⟨rfl, -⟩ := r1
  refine lq (q_indexAddr Sl_42 rfl rfl ph0 hx1) rfl <| lg4 0 Tn_87 g1 rfl rfl ?_
  refine ln (nz Zr_87) rfl (fun b_2 => ?_)
  refine soN 0 Sz_87 rfl ⟨rfl, rfl, rfl, rfl, trivial⟩ rfl ?_
  refine en <| sr <| lf Fld_87_0 rfl rfl rfl <| lo T1_9 0 rfl <| la rfl <| la rfl <| en ?_
  refine cdh rfl h (fun c2 h => ?_) (fun c2 h => ?_)
  ·refine sr <| lf Fld_87_1 rfl rfl rfl <| ld3 Tn_85 0 rfl <| soN 1 Sz_85 rfl ⟨rfl, rfl, rfl, trivial⟩ rfl ?_
   refine la rfl <| en ?_
   refine WT.ret Tryz.func186 (resOk.two (rv_cell Tn_85 rfl (fun w1 hw => hw.rgO (i := 1) rfl 0 3 [.int .i64 x1.V.K, .int .i64 x1.V.N, .string x1.V.S] rfl) rfl) rfl) (fun w1 hw => ?_)
   subst hb0
   cases h
   exact post_of_St hw
  refine WT.skip <| ib <| rgn <| la rfl <| la rfl <| en ?_
  exact lback (ih1 (IntKind.i64.wrap (s1 + 1)) h) ⟨rfl, rfl, rfl, rfl, rfl, trivial⟩ (fun w1 hw => (hw.sel (js := []) rfl).selO (js := [1]) rfl)
 refine xt rfl <| sr <| lq (q_build (vs := []) (C := #[.int .i64 0, .int .i64 0, .string (⟨#[]⟩ : ByteArray)]) Pl_85 Zr_85 rfl (fill_nil)) rfl <| soN 0 Sz_85 rfl ⟨rfl, rfl, rfl, trivial⟩ rfl ?_
 refine la rfl <| en ?_
 refine WT.ret Tryz.func186 (resOk.two (rv_cell Tn_85 rfl (fun w1 hw => hw.rgO (i := 0) rfl 0 3 [.int .i64 0, .int .i64 0, .string (⟨#[]⟩ : ByteArray)] rfl) rfl) rfl) (fun w1 hw => ?_)
 subst hb0
 cases h
 exact post_of_St hw
theorem m_i_MatchPat_ok {Φ : Hp} {w : World} (hΦ : In Φ w) (N : Nat) (p0 : TPat) (p1 : TFact) (p2 : (List TBind)) {pv0_0 pv1_0 pv2 : Value} {pG0_0 pG1_0 pG2 : List Nat} (ph0_0 : RSl RTArg 5 Φ pG0_0 pv0_0 p0.Args) (ph1_0 : RSl RTVal 3 Φ pG1_0 pv1_0 p1.Fields) (ph2 : RSl RTBind 4 Φ pG2 pv2 p2) {r : (List TBind) × Bool} (h : m_i_MatchPat N p0 p1 p2 = some r) :
  Calls Tryz.prog 154 [.agg [.string p0.Kind, pv0_0, .bool p0.Not].toArray, .agg [.string p1.Kind, pv1_0].toArray, pv2].toArray w (PostG Φ w [] (fun Φ' Fs v => ∃ (sr_0_0 : Value), v = .tuple #[sr_0_0, .bool r.2] ∧ Fs = [ob sr_0_0] ∧ OSl RTBind 87 4 Φ' [] sr_0_0 r.1)) := by
 refine enter Tryz.func154 rfl Tryz.ntmps154 rfl (St.start0 hΦ) ?_
 have pa0_0 := Old.mk hΦ ph0_0.kn (Dj.empty _)
 have pa1_0 := Old.mk hΦ ph1_0.kn (Dj.empty _)
 have pa2 := Old.mk hΦ ph2.kn (Dj.empty _)
 revert pa0_0 pa1_0 pa2
 generalize hb0 : (⟨w, [], Φ⟩ : Base) = w0
 intro pa0_0 pa1_0 pa2
 unfold m_i_MatchPat at h
 refine sr ?_
 refine ln (nb rfl) rfl (fun b_1 => ?_)
 refine ln (nb rfl) rfl (fun b_2 => ?_)
 refine la rfl <| la rfl <| en <| sq <| sr <| lf Fld_123_0 rfl rfl rfl <| lo T1_9 0 rfl <| lf Fld_171_0 rfl rfl rfl <| lo T1_9 1 rfl <| la rfl <| la rfl ?_
 obtain ⟨b1, hb_1, h⟩ := bs h
 refine WL.cutN 8 [(27, .bool b1), (2, pv2), (3, .pointer (some ⟨b_1, 0, none⟩)), (4, .pointer (some ⟨b_2, 0, none⟩))] ?_ (fun K => ?_)
 rotate_left
 ·refine spl 19 rfl hb_1 (fun c1 hb_1 => ?_) (fun c1 hb_1 => ?_)
  ·refine la rfl <| la rfl <| la rfl <| la rfl <| la rfl <| la rfl <| la rfl <| la rfl ?_
   cases hb_1
   exact kk K ⟨rfl, rfl, rfl, rfl, trivial⟩
  ·refine ly rfl rfl <| lf Fld_123_1 rfl rfl rfl <| ly rfl rfl <| lo T1_121 0 rfl <| ly rfl rfl <| lq (q_lenR Sl_121 rfl rfl ph1_0) rfl <| ly rfl rfl <| lf Fld_171_1 rfl rfl rfl <| ly rfl rfl <| lo T1_169 1 rfl <| ly rfl rfl <| lq (q_lenR Sl_169 rfl rfl ph0_0) rfl <| ly rfl rfl <| la rfl <| la rfl ?_
   cases hb_1
   exact kk K ⟨rfl, rfl, rfl, rfl, trivial⟩
 refine en ?_
 refine cdh rfl h (fun c2 h => ?_) (fun c2 h => ?_)
 ·refine sr <| la rfl ?_
  obtain ⟨x1, hx1, h⟩ := bs h
  refine lc (k_call (js := []) (R := []) Fun_153 rfl rfl (fun w1 hw ap hl => m_sl_Clone_Si_Bind_i_Bind_ok hw.fro N p2 ph2  hx1)) rfl (fun v1 Φ_1 F1 q1 => ?_)
  obtain ⟨ap1, fr1, v2, rfl, rfl, h1⟩ := q1
  refine la rfl <| la rfl <| en ?_
  refine WT.ret Tryz.func154 (resOk.two rfl rfl) (fun w1 hw => ?_)
  subst hb0
  cases h
  refine postG_of_St (js := [0]) hw rfl ⟨v1, rfl, rfl, h1⟩
 refine WT.skip <| sr <| la rfl ?_
 obtain ⟨x2, hx2, h⟩ := bs h
 refine lc (k_call (js := []) (R := []) Fun_153 rfl rfl (fun w1 hw ap hl => m_sl_Clone_Si_Bind_i_Bind_ok hw.fro N p2 ph2  hx2)) rfl (fun v3 Φ_2 F2 q2 => ?_)
 obtain ⟨ap2, fr2, v4, rfl, rfl, h2⟩ := q2
 replace ph2 := ph2.frame RTBind.lasts fr2 (ap2.o pa2)
 replace ph0_0 := ph0_0.frame RTArg.lasts fr2 (ap2.o pa0_0)
 replace ph1_0 := ph1_0.frame RTVal.lasts fr2 (ap2.o pa1_0)
 refine la rfl <| en <| sq <| sr <| lf Fld_171_1 rfl rfl rfl <| lo T1_169 1 rfl <| lq (q_lenR Sl_169 rfl rfl ph0_0) rfl <| la rfl <| en <| blk ?_
 refine loop_in (σ := Hp × (List TBind) × Value × Int) (fun s => [(2, pv2), (4, .pointer (some ⟨b_2, 0, none⟩)), (8, s.2.2.1), (33, pv0_0), (34, .int .i64 (p0.Args.length : Int)), (35, .int .i64 s.2.2.2)]) (fun s => St w0 s.1 [(b_2, .cells #[.string p1.Kind, pv1_0] 123 (0, 0))] [ob s.2.2.1]) (fun m s => m_i_MatchPat_l1 N p0 p1 p2 m s.2.1 s.2.2.2 = some r ∧ (OSl RTBind 87 4 s.1 [] s.2.2.1 s.2.1) ∧ (RSl RTBind 4 s.1 pG2 pv2 p2) ∧ (RSl RTVal 3 s.1 pG1_0 pv1_0 p1.Fields) ∧ (RSl RTArg 5 s.1 pG0_0 pv0_0 p0.Args)) (Φ_2, x2, v3, 0) N ⟨h, h2, ph2, ph1_0, ph0_0⟩ ⟨rfl, rfl, rfl, rfl, rfl, rfl, trivial⟩ (fun w1 hw => (hw.sel (js := [0]) rfl).selO (js := [0]) rfl) (fun s hm => none_ne hm.1) (fun n1 ih1 s hm => ?_)
 obtain ⟨Φ_3, s1, u1, s2⟩ := s
 obtain ⟨h, k1, ph2, ph1_0, ph0_0⟩ := hm
 dsimp only at h k1 ph2 ph1_0 ph0_0 ⊢
 unfold m_i_MatchPat_l1 at h
 refine sr <| la rfl <| en <| sq ?_
 refine cdh rfl h (fun c3 h => ?_) (fun c3 h => ?_)
 ·refine WT.skip <| sq <| blk <| sr <| la rfl ?_
  obtain ⟨x3, hx3, h⟩ := bs h
  obtain ⟨cs1, F3, -, g1, hb1, hs1, r1⟩ := ph0_0.el (idx_some hx3).2.2
  obtain ⟨rfl, -⟩ := r1
  refine lq (q_indexAddr Sl_169 rfl rfl ph0_0 hx3) rfl <| lg5 0 Tn_137 g1 rfl rfl ?_
  refine ln (nz Zr_137) rfl (fun b_3 => ?_)
  refine la rfl <| soN 0 Sz_137 rfl ⟨rfl, rfl, rfl, rfl, rfl, trivial⟩ rfl ?_
  refine en <| sr <| lf Fld_123_1 rfl rfl rfl <| lo T1_121 1 rfl <| la rfl ?_
  obtain ⟨x4, hx4, h⟩ := bs h
  obtain ⟨cs2, F4, -, g2, hb2, hs2, r2⟩ := ph1_0.el (idx_some hx4).2.2
  obtain ⟨rfl, -⟩ := r2
  refine lq (q_indexAddr Sl_121 rfl rfl ph1_0 hx4) rfl <| lg3 0 Tn_85 g2 rfl rfl ?_
  refine ln (nz Zr_85) rfl (fun b_4 => ?_)
  refine soN 0 Sz_85 rfl ⟨rfl, rfl, rfl, trivial⟩ rfl ?_
  refine en <| sr <| lf Fld_137_0 rfl rfl rfl <| lo T1_3 1 rfl <| en <| blk <| sr <| la rfl <| la rfl <| en ?_
  refine cdh rfl h (fun c4 h => ?_) (fun c4 h => ?_)
  ·refine sr <| lf Fld_137_2 rfl rfl rfl <| ld3 Tn_85 1 rfl <| ld3 Tn_85 0 rfl <| lq (q_neA EqT_85 rfl rfl rfl (r := eqT_TVal x3.V x4) rfl) rfl <| en ?_
   refine cdh rfl h (fun c5 h => ?_) (fun c5 h => ?_)
   ·refine sr <| la rfl ?_
    obtain ⟨x5, hx5, h⟩ := bs h
    refine lc (k_call (js := []) (R := [ob u1]) Fun_153 rfl rfl (fun w1 hw ap hl => m_sl_Clone_Si_Bind_i_Bind_ok hw.fro N p2 ph2  hx5)) rfl (fun v5 Φ_4 F5 q3 => ?_)
    obtain ⟨ap3, fr3, v6, rfl, rfl, h3⟩ := q3
    refine la rfl <| la rfl <| en ?_
    refine WT.ret Tryz.func154 (resOk.two rfl rfl) (fun w1 hw => ?_)
    subst hb0
    cases h
    refine postG_of_St (js := [0]) hw rfl ⟨v5, rfl, rfl, h3⟩
   refine WT.skip <| ib <| ib <| rgn <| la rfl <| la rfl <| en ?_
   exact lback (ih1 (Φ_3, s1, u1, IntKind.i64.wrap (s2 + 1)) ⟨h, k1, ph2, ph1_0, ph0_0⟩) ⟨rfl, rfl, rfl, rfl, rfl, rfl, trivial⟩ (fun w1 hw => (hw.sel (js := [0]) rfl).selO (js := [2]) rfl)
  refine sr <| la rfl <| la rfl <| en ?_
  refine cdh rfl h (fun c6 h => ?_) (fun c6 h => ?_)
  ·refine sr <| la rfl <| lf Fld_137_1 rfl rfl rfl <| lo T1_9 1 rfl ?_
   obtain ⟨x6, hx6, h⟩ := bs h
   refine lp (p_call Fun_186 rfl (fun w1 hw => m_i_BindOf_ok hw.fro N s1 x3.S k1.rsl hx6)) rfl <| la rfl <| lq (q_extract rfl rfl) rfl <| lq (q_extract rfl rfl) rfl ?_
   refine ln (nz Zr_85) rfl (fun b_5 => ?_)
   refine soN 0 Sz_85 rfl ⟨rfl, rfl, rfl, trivial⟩ rfl ?_
   refine la rfl <| en <| sq <| sr <| la rfl <| la rfl ?_
   obtain ⟨b2, hb_2, h⟩ := bs h
   refine WL.cutN 4 [(69, .bool b2), (2, pv2), (4, .pointer (some ⟨b_2, 0, none⟩)), (8, u1), (10, .pointer (some ⟨b_3, 0, none⟩)), (11, .pointer (some ⟨b_4, 0, none⟩)), (13, .bool x6.2), (33, pv0_0), (34, .int .i64 (p0.Args.length : Int)), (35, .int .i64 s2)] ?_ (fun K => ?_)
   rotate_left
   ·refine spl 65 rfl hb_2 (fun c7 hb_2 => ?_) (fun c7 hb_2 => ?_)
    ·refine ly rfl rfl <| ld3 Tn_85 0 rfl <| ly rfl rfl <| ld3 Tn_85 1 rfl <| ly rfl rfl <| lq (q_neA EqT_85 rfl rfl rfl (r := eqT_TVal x6.1 x4) rfl) rfl <| la rfl ?_
     cases hb_2
     exact kk K ⟨rfl, rfl, rfl, rfl, rfl, rfl, rfl, rfl, rfl, rfl, trivial⟩
    ·refine la rfl <| la rfl <| la rfl <| la rfl ?_
     cases hb_2
     exact kk K ⟨rfl, rfl, rfl, rfl, rfl, rfl, rfl, rfl, rfl, rfl, trivial⟩
   refine en ?_
   refine cdh rfl h (fun c8 h => ?_) (fun c8 h => ?_)
   ·refine sr <| la rfl ?_
    obtain ⟨x7, hx7, h⟩ := bs h
    refine lc (k_call (js := []) (R := [ob u1]) Fun_153 rfl rfl (fun w1 hw ap hl => m_sl_Clone_Si_Bind_i_Bind_ok hw.fro N p2 ph2  hx7)) rfl (fun v7 Φ_5 F6 q4 => ?_)
    obtain ⟨ap4, fr4, v8, rfl, rfl, h4⟩ := q4
    refine la rfl <| la rfl <| en ?_
    refine WT.ret Tryz.func154 (resOk.two rfl rfl) (fun w1 hw => ?_)
    subst hb0
    cases h
    refine postG_of_St (js := [0]) hw rfl ⟨v7, rfl, rfl, h4⟩
   refine WT.skip <| sr <| la rfl <| la rfl <| en ?_
   refine cdh rfl h (fun c9 h => ?_) (fun c9 h => ?_)
   ·refine rgn <| la rfl <| lf Fld_137_1 rfl rfl rfl <| lo T1_9 2 rfl <| ld3 Tn_85 1 rfl <| lq (q_build (vs := [(0, .string x3.S), (1, .agg [.int .i64 x4.K, .int .i64 x4.N, .string x4.S].toArray)]) (C := #[.string x3.S, .int .i64 x4.K, .int .i64 x4.N, .string x4.S]) Pl_87 Zr_87 rfl (fill_cons (C' := [.string x3.S, .int .i64 0, .int .i64 0, .string ⟨#[]⟩]) rfl rfl rfl rfl rfl (fill_cons (C' := [.string x3.S, .int .i64 x4.K, .int .i64 x4.N, .string x4.S]) rfl rfl rfl rfl rfl (fill_nil)))) rfl ?_
    have rc1 : RC RTBind 4 Φ_3 ([[]] : List (List Nat)) [.string x3.S, .int .i64 x4.K, .int .i64 x4.N, .string x4.S] ([(⟨x3.S, x4⟩ : TBind)] : List TBind) := RC.cons (c := [.string x3.S, .int .i64 x4.K, .int .i64 x4.N, .string x4.S]) (cells := []) ⟨rfl, rfl⟩ rfl (RC.nil _ _ _)
    refine le' (e_lit (vs := [(0, .agg [.string x3.S, .int .i64 x4.K, .int .i64 x4.N, .string x4.S].toArray)]) (C := #[.string x3.S, .int .i64 x4.K, .int .i64 x4.N, .string x4.S]) RTBind.lasts Sl_42 Zr_87 rfl rfl rfl rfl (fill_made MC_87_1 (fill_cons (C' := [.string x3.S, .int .i64 x4.K, .int .i64 x4.N, .string x4.S]) rfl rfl rfl rfl rfl (fill_nil))) rfl rc1 rfl (by simpa using Kw.nil)) rfl (fun v9 Φ_6 D1 q5 => ?_)
    obtain ⟨fr5, h5⟩ := q5
    replace h5 : OSl RTBind 87 4 Φ_6 [] v9 ([(⟨x3.S, x4⟩ : TBind)] : List TBind) := by simpa using h5
    replace ph2 := ph2.frame RTBind.lasts fr5 (Dj.empty _)
    replace ph1_0 := ph1_0.frame RTVal.lasts fr5 (Dj.empty _)
    replace ph0_0 := ph0_0.frame RTArg.lasts fr5 (Dj.empty _)
    replace k1 := k1.frame RTBind.lasts fr5 (Dj.empty _) (Dj.empty _)
    obtain ⟨x8, hx8, h⟩ := bs h
    refine le' (e_appF RTBind.lasts RTBind.one RTBind.flat Sl_42 Ei_87 rfl rfl rfl rfl rfl (js := [1]) (Rr := [ob v9]) rfl k1 h5.rsl hx8) rfl (fun v10 Φ_7 D2 q6 => ?_)
    obtain ⟨⟨ap5, fr6⟩, h6⟩ := q6
    replace ph2 := ph2.frame RTBind.lasts fr6 (ap5.o pa2)
    replace ph1_0 := ph1_0.frame RTVal.lasts fr6 (ap5.o pa1_0)
    replace ph0_0 := ph0_0.frame RTArg.lasts fr6 (ap5.o pa0_0)
    refine la rfl <| en <| ib <| ib <| rgn <| la rfl <| la rfl <| en ?_
    exact lback (ih1 (Φ_7, x8, v10, IntKind.i64.wrap (s2 + 1)) ⟨h, h6, ph2, ph1_0, ph0_0⟩) ⟨rfl, rfl, rfl, rfl, rfl, rfl, trivial⟩ (fun w1 hw => (hw.sel (js := [0]) rfl).selO (js := [3]) rfl)
   refine WT.skip <| ib <| ib <| rgn <| la rfl <| la rfl <| en ?_
   exact lback (ih1 (Φ_3, s1, u1, IntKind.i64.wrap (s2 + 1)) ⟨h, k1, ph2, ph1_0, ph0_0⟩) ⟨rfl, rfl, rfl, rfl, rfl, rfl, trivial⟩ (fun w1 hw => (hw.sel (js := [0]) rfl).selO (js := [3]) rfl)
  refine WT.skip <| ib <| ib <| rgn <| la rfl <| la rfl <| en ?_
  exact lback (ih1 (Φ_3, s1, u1, IntKind.i64.wrap (s2 + 1)) ⟨h, k1, ph2, ph1_0, ph0_0⟩) ⟨rfl, rfl, rfl, rfl, rfl, rfl, trivial⟩ (fun w1 hw => (hw.sel (js := [0]) rfl).selO (js := [2]) rfl)
 refine xt rfl <| sr <| la rfl <| la rfl <| la rfl <| en ?_
 refine WT.ret Tryz.func154 (resOk.two rfl rfl) (fun w1 hw => ?_)
 subst hb0
 cases h
 refine postG_of_St (js := [0]) hw rfl ⟨u1, rfl, rfl, k1⟩
theorem m_i_hitsIn_ok {Φ : Hp} {w : World} (hΦ : In Φ w) (N : Nat) (p0 : TPat) (p1 : TStore) (p2 : (List TBind)) {pv0_0 pv1_0 pv2 : Value} {pG0_0 pG1_0 pG2 : List Nat} (ph0_0 : RSl RTArg 5 Φ pG0_0 pv0_0 p0.Args) (ph1_0 : RSl RTItem 3 Φ pG1_0 pv1_0 p1.Items) (ph2 : RSl RTBind 4 Φ pG2 pv2 p2) {r : Int} (h : m_i_hitsIn N p0 p1 p2 = some r) :
  Calls Tryz.prog 184 [.agg [.string p0.Kind, pv0_0, .bool p0.Not].toArray, .agg [pv1_0, .int .i64 p1.Next].toArray, pv2].toArray w (Post (.int .i64 r) w) := by
 refine enter Tryz.func184 rfl Tryz.ntmps184 rfl (St.start0 hΦ) ?_
 have pa0_0 := Old.mk hΦ ph0_0.kn (Dj.empty _)
 have pa1_0 := Old.mk hΦ ph1_0.kn (Dj.empty _)
 have pa2 := Old.mk hΦ ph2.kn (Dj.empty _)
 revert pa0_0 pa1_0 pa2
 generalize hb0 : (⟨w, [], Φ⟩ : Base) = w0
 intro pa0_0 pa1_0 pa2
 unfold m_i_hitsIn at h
 refine sr ?_
 refine ln (nb rfl) rfl (fun b_1 => ?_)
 refine ln (nb rfl) rfl (fun b_2 => ?_)
 refine la rfl <| en <| sr <| la rfl <| en <| sq <| sr <| lf Fld_29_0 rfl rfl rfl <| lo T1_27 0 rfl <| lq (q_lenR Sl_27 rfl rfl ph1_0) rfl <| la rfl <| en <| blk ?_
 refine loop_in (σ := Hp × Int × Int) (fun s => [(2, pv2), (3, .pointer (some ⟨b_1, 0, none⟩)), (7, .int .i64 s.2.1), (13, pv1_0), (14, .int .i64 (p1.Items.length : Int)), (15, .int .i64 s.2.2)]) (fun s => St w0 s.1 [(b_1, .cells #[.string p0.Kind, pv0_0, .bool p0.Not] 171 (0, 0))] []) (fun m s => m_i_hitsIn_l1 N p0 p1 p2 m s.2.1 s.2.2 = some r ∧ (RSl RTBind 4 s.1 pG2 pv2 p2) ∧ (RSl RTArg 5 s.1 pG0_0 pv0_0 p0.Args) ∧ (RSl RTItem 3 s.1 pG1_0 pv1_0 p1.Items)) (Φ, 0, 0) N ⟨h, ph2, ph0_0, ph1_0⟩ ⟨rfl, rfl, rfl, rfl, rfl, rfl, trivial⟩ (fun w1 hw => (hw.sel (js := []) rfl).selO (js := [1]) rfl) (fun s hm => none_ne hm.1) (fun n1 ih1 s hm => ?_)
 obtain ⟨Φ_1, s1, s2⟩ := s
 obtain ⟨h, ph2, ph0_0, ph1_0⟩ := hm
 dsimp only at h ph2 ph0_0 ph1_0 ⊢
 unfold m_i_hitsIn_l1 at h
 refine sr <| la rfl <| en <| sq ?_
 refine cdh rfl h (fun c1 h => ?_) (fun c1 h => ?_)
 ·refine WT.skip <| sq <| blk <| sr ?_
  obtain ⟨x1, hx1, h⟩ := bs h
  obtain ⟨cs1, F1, -, g1, hb1, hs1, r1⟩ := ph1_0.el (idx_some hx1).2.2
  obtain ⟨v1, G1, rfl, hq1, h1⟩ := r1
  obtain rfl := hq1.symm
  refine lq (q_indexAddr Sl_27 rfl rfl ph1_0 hx1) rfl <| lg3 0 Tn_125 g1 rfl rfl ?_
  refine ln (nz Zr_125) rfl (fun b_3 => ?_)
  refine soN 0 Sz_125 rfl ⟨rfl, rfl, h1.one, trivial⟩ rfl ?_
  refine en <| sr <| ld3 Tn_171 1 rfl <| lf Fld_125_1 rfl rfl rfl <| ld2 Tn_123 0 rfl <| la rfl ?_
  obtain ⟨x2, hx2, h⟩ := bs h
  refine lc (k_call (js := []) (R := []) Fun_154 rfl rfl (fun w1 hw ap hl => m_i_MatchPat_ok hw.fro N p0 x1.F p2 ph0_0 h1 ph2  hx2)) rfl (fun v2 Φ_2 F2 q1 => ?_)
  obtain ⟨ap1, fr1, v3, rfl, rfl, h2⟩ := q1
  replace ph2 := ph2.frame RTBind.lasts fr1 (ap1.o pa2)
  replace ph0_0 := ph0_0.frame RTArg.lasts fr1 (ap1.o pa0_0)
  replace ph1_0 := ph1_0.frame RTItem.lasts fr1 (ap1.o pa1_0)
  refine la rfl <| lq (q_extract rfl rfl) rfl <| lq (q_extract rfl rfl) rfl <| la rfl <| la rfl <| en <| sr <| la rfl <| en ?_
  refine cdh rfl h (fun c2 h => ?_) (fun c2 h => ?_)
  ·refine rgn <| la rfl <| la rfl <| la rfl <| en <| ib <| rgn <| la rfl <| la rfl <| en ?_
   exact lback (ih1 (Φ_2, IntKind.i64.wrap (s1 + 1), IntKind.i64.wrap (s2 + 1)) ⟨h, ph2, ph0_0, ph1_0⟩) ⟨rfl, rfl, rfl, rfl, rfl, rfl, trivial⟩ (fun w1 hw => (hw.sel (js := []) rfl).selO (js := [1]) rfl)
  refine WT.skip <| ib <| rgn <| la rfl <| la rfl <| en ?_
  exact lback (ih1 (Φ_2, s1, IntKind.i64.wrap (s2 + 1)) ⟨h, ph2, ph0_0, ph1_0⟩) ⟨rfl, rfl, rfl, rfl, rfl, rfl, trivial⟩ (fun w1 hw => (hw.sel (js := []) rfl).selO (js := [1]) rfl)
 refine xt rfl <| sr <| la rfl <| la rfl <| en ?_
 refine WT.ret Tryz.func184 (resOk.one rfl) (fun w1 hw => ?_)
 subst hb0
 cases h
 exact post_of_St hw
theorem m_i_Blocked_ok {Φ : Hp} {w : World} (hΦ : In Φ w) (N : Nat) (p0 : TRule) (p1 : TStore) (p2 : (List TBind)) {pv0_0 pv0_1 pv0_2 pv1_0 pv2 : Value} {pG0_0 pG0_1 pG0_2 pG1_0 pG2 : List Nat} (ph0_0 : RSl RTPat 3 Φ pG0_0 pv0_0 p0.Pats) (ph0_1 : RSl RTCond 11 Φ pG0_1 pv0_1 p0.Conds) (ph0_2 : RSl RTAct 5 Φ pG0_2 pv0_2 p0.Acts) (ph1_0 : RSl RTItem 3 Φ pG1_0 pv1_0 p1.Items) (ph2 : RSl RTBind 4 Φ pG2 pv2 p2) {r : Bool} (h : m_i_Blocked N p0 p1 p2 = some r) :
  Calls Tryz.prog 150 [.agg [.string p0.Name, .int .i64 p0.Sal, pv0_0, pv0_1, pv0_2].toArray, .agg [pv1_0, .int .i64 p1.Next].toArray, pv2].toArray w (Post (.bool r) w) := by
 refine enter Tryz.func150 rfl Tryz.ntmps150 rfl (St.start0 hΦ) ?_
 generalize hb0 : (⟨w, [], Φ⟩ : Base) = w0
 unfold m_i_Blocked at h
 refine sr ?_
 refine ln (nb rfl) rfl (fun b_1 => ?_)
 refine ln (nb rfl) rfl (fun b_2 => ?_)
 refine la rfl <| en <| sq <| sr <| lf Fld_40_2 rfl rfl rfl <| lo T1_36 1 rfl <| lq (q_lenR Sl_36 rfl rfl ph0_0) rfl <| la rfl <| en <| blk ?_
 refine loop_in (σ := Int) (fun s => [(2, pv2), (4, .pointer (some ⟨b_2, 0, none⟩)), (10, pv0_0), (11, .int .i64 (p0.Pats.length : Int)), (12, .int .i64 s)]) (fun s => St w0 Φ [(b_2, .cells #[pv1_0, .int .i64 p1.Next] 29 (0, 0))] []) (fun m s => m_i_Blocked_l1 N p0 p1 p2 m s = some r) (0) N h ⟨rfl, rfl, rfl, rfl, rfl, trivial⟩ (fun w1 hw => (hw.sel (js := []) rfl).selO (js := [0]) rfl) (fun s hm => none_ne hm) (fun n1 ih1 s hm => ?_)
 revert hm; revert s; intro s1 hm
 have h : m_i_Blocked_l1 N p0 p1 p2 (n1 + 1) s1 = some r := hm
 show WT _ _ [(2, pv2), (4, .pointer (some ⟨b_2, 0, none⟩)), (10, pv0_0), (11, .int .i64 (p0.Pats.length : Int)), (12, .int .i64 s1)] (St w0 Φ [(b_2, .cells #[pv1_0, .int .i64 p1.Next] 29 (0, 0))] [])
 unfold m_i_Blocked_l1 at h
 refine sr <| la rfl <| en <| sq ?_
 refine cdh rfl h (fun c1 h => ?_) (fun c1 h => ?_)
 ·refine WT.skip <| sq <| blk <| sr ?_
  obtain ⟨x1, hx1, h⟩ := bs h
  obtain ⟨cs1, F1, -, g1, hb1, hs1, r1⟩ := ph0_0.el (idx_some hx1).2.2
  obtain ⟨v1, G1, rfl, hq1, h1⟩ := r1
  obtain rfl := hq1.symm
  refine lq (q_indexAddr Sl_36 rfl rfl ph0_0 hx1) rfl <| lg3 0 Tn_171 g1 rfl rfl ?_
  refine ln (nz Zr_171) rfl (fun b_3 => ?_)
  refine soN 0 Sz_171 rfl ⟨rfl, h1.one, rfl, trivial⟩ rfl ?_
  refine en <| sr <| lf Fld_171_2 rfl rfl rfl <| lo T1_4 0 rfl <| la rfl ?_
  obtain ⟨b1, hb_1, h⟩ := bs h
  refine WL.cutN 6 [(24, .bool b1), (2, pv2), (4, .pointer (some ⟨b_2, 0, none⟩)), (10, pv0_0), (11, .int .i64 (p0.Pats.length : Int)), (12, .int .i64 s1)] ?_ (fun K => ?_)
  rotate_left
  ·refine spl 18 rfl hb_1 (fun c2 hb_1 => ?_) (fun c2 hb_1 => ?_)
   ·refine ly rfl rfl <| ld3 Tn_171 0 rfl <| ly rfl rfl <| ld2 Tn_29 1 rfl <| ly rfl rfl <| la rfl <| ly rfl rfl ?_
    obtain ⟨x2, hx2, hb_1⟩ := bs hb_1
    refine lp (p_call Fun_184 rfl (fun w1 hw => m_i_hitsIn_ok hw.fro N x1 p1 p2 h1 ph1_0 ph2 hx2)) rfl <| ly rfl rfl <| la rfl <| la rfl ?_
    cases hb_1
    exact kk K ⟨rfl, rfl, rfl, rfl, rfl, rfl, trivial⟩
   ·refine la rfl <| la rfl <| la rfl <| la rfl <| la rfl <| la rfl ?_
    cases hb_1
    exact kk K ⟨rfl, rfl, rfl, rfl, rfl, rfl, trivial⟩
  refine en ?_
  refine cdh rfl h (fun c3 h => ?_) (fun c3 h => ?_)
  ·refine sr <| la rfl <| en ?_
   refine WT.ret Tryz.func150 (resOk.one rfl) (fun w1 hw => ?_)
   subst hb0
   cases h
   exact post_of_St hw
  refine WT.skip <| ib <| rgn <| la rfl <| la rfl <| en ?_
  exact lback (ih1 (IntKind.i64.wrap (s1 + 1)) h) ⟨rfl, rfl, rfl, rfl, rfl, trivial⟩ (fun w1 hw => (hw.sel (js := []) rfl).selO (js := [1]) rfl)
 refine xt rfl <| sr <| la rfl <| en ?_
 refine WT.ret Tryz.func150 (resOk.one rfl) (fun w1 hw => ?_)
 subst hb0
 cases h
 exact post_of_St hw
theorem m_i_ArgVal_ok {Φ : Hp} {w : World} (hΦ : In Φ w) (N : Nat) (p0 : TArg) (p1 : (List TBind)) {pv1 : Value} {pG1 : List Nat} (ph1 : RSl RTBind 4 Φ pG1 pv1 p1) {r : TVal × Bool} (h : m_i_ArgVal N p0 p1 = some r) :
  Calls Tryz.prog 204 [.agg [.int .i64 p0.K, .string p0.S, .int .i64 p0.V.K, .int .i64 p0.V.N, .string p0.V.S].toArray, pv1].toArray w (Post (.tuple #[.agg [.int .i64 r.1.K, .int .i64 r.1.N, .string r.1.S].toArray, .bool r.2]) w) := by
 refine enter Tryz.func204 rfl Tryz.ntmps204 rfl (St.start0 hΦ) ?_
 unfold m_i_ArgVal at h
 refine sr ?_
 refine ln (nb rfl) rfl (fun b_1 => ?_)
 refine ln (nz Zr_85) rfl (fun b_2 => ?_)
 refine la rfl <| en <| sq <| sr <| lf Fld_137_0 rfl rfl rfl <| lo T1_3 1 rfl <| en <| blk <| sr <| la rfl <| la rfl <| en ?_
 refine cdh rfl h (fun c1 h => ?_) (fun c1 h => ?_)
 ·refine sr <| lf Fld_137_2 rfl rfl rfl <| ld3 Tn_85 1 rfl <| soN 0 Sz_85 rfl ⟨rfl, rfl, rfl, trivial⟩ rfl ?_
  refine la rfl <| en ?_
  refine WT.ret Tryz.func204 (resOk.two (rv_cell Tn_85 rfl (fun w1 hw => hw.rgO (i := 0) rfl 0 3 [.int .i64 p0.V.K, .int .i64 p0.V.N, .string p0.V.S] rfl) rfl) rfl) (fun w1 hw => ?_)
  cases h
  exact post_of_St hw
 refine sr <| la rfl <| la rfl <| en ?_
 refine cdh rfl h (fun c2 h => ?_) (fun c2 h => ?_)
 ·refine sr <| la rfl <| lf Fld_137_1 rfl rfl rfl <| lo T1_9 1 rfl ?_
  obtain ⟨x1, hx1, h⟩ := bs h
  refine lp (p_call Fun_186 rfl (fun w1 hw => m_i_BindOf_ok hw.fro N p1 p0.S ph1 hx1)) rfl <| lq (q_extract rfl rfl) rfl <| lq (q_extract rfl rfl) rfl <| soN 0 Sz_85 rfl ⟨rfl, rfl, rfl, trivial⟩ rfl ?_
  refine la rfl <| en ?_
  refine WT.ret Tryz.func204 (resOk.two (rv_cell Tn_85 rfl (fun w1 hw => hw.rgO (i := 0) rfl 0 3 [.int .i64 x1.1.K, .int .i64 x1.1.N, .string x1.1.S] rfl) rfl) rfl) (fun w1 hw => ?_)
  cases h
  exact post_of_St hw
 refine WT.skip <| ib <| sr <| lq (q_build (vs := []) (C := #[.int .i64 0, .int .i64 0, .string (⟨#[]⟩ : ByteArray)]) Pl_85 Zr_85 rfl (fill_nil)) rfl <| soN 0 Sz_85 rfl ⟨rfl, rfl, rfl, trivial⟩ rfl ?_
 refine la rfl <| en ?_
 refine WT.ret Tryz.func204 (resOk.two (rv_cell Tn_85 rfl (fun w1 hw => hw.rgO (i := 0) rfl 0 3 [.int .i64 0, .int .i64 0, .string (⟨#[]⟩ : ByteArray)] rfl) rfl) rfl) (fun w1 hw => ?_)
 cases h
 exact post_of_St hw
theorem m_cmp_Or_int_ok {Φ : Hp} {w : World} (hΦ : In Φ w) (N : Nat) (p0 : (List Int)) {pv0 : Value} {pG0 : List Nat} (ph0 : RSl (RI .i64) 1 Φ pG0 pv0 p0) {r : Int} (h : m_cmp_Or_int N p0 = some r) :
  Calls Tryz.prog 213 [pv0].toArray w (Post (.int .i64 r) w) := by
 refine enter Tryz.func213 rfl Tryz.ntmps213 rfl (St.start0 hΦ) ?_
 generalize hb0 : (⟨w, [], Φ⟩ : Base) = w0
 unfold m_cmp_Or_int at h
 refine sr <| la rfl <| en <| sr <| la rfl <| en <| sq <| sr <| la rfl <| lq (q_lenR Sl_41 rfl rfl ph0) rfl <| la rfl <| en <| blk ?_
 refine loop_in (σ := Int) (fun s => [(3, .int .i64 0), (6, pv0), (7, .int .i64 (p0.length : Int)), (8, .int .i64 s)]) (fun s => St w0 Φ [] []) (fun m s => m_cmp_Or_int_l1 N p0 m s = some r) (0) N h ⟨rfl, rfl, rfl, rfl, trivial⟩ (fun w1 hw => (hw.sel (js := []) rfl).selO (js := []) rfl) (fun s hm => none_ne hm) (fun n1 ih1 s hm => ?_)
 revert hm; revert s; intro s1 hm
 have h : m_cmp_Or_int_l1 N p0 (n1 + 1) s1 = some r := hm
 show WT _ _ [(3, .int .i64 0), (6, pv0), (7, .int .i64 (p0.length : Int)), (8, .int .i64 s1)] (St w0 Φ [] [])
 unfold m_cmp_Or_int_l1 at h
 refine sr <| la rfl <| en <| sq ?_
 refine cdh rfl h (fun c1 h => ?_) (fun c1 h => ?_)
 ·refine WT.skip <| sq <| blk <| sr ?_
  obtain ⟨x1, hx1, h⟩ := bs h
  obtain ⟨cs1, F1, -, g1, hb1, hs1, r1⟩ := ph0.el (idx_some hx1).2.2
  obtain ⟨rfl, -⟩ := r1
  refine lq (q_indexAddr Sl_41 rfl rfl ph0 hx1) rfl <| lg 0 T1_3 g1 rfl rfl <| la rfl <| en <| sr <| la rfl <| la rfl <| la rfl <| en ?_
  refine cdh rfl h (fun c2 h => ?_) (fun c2 h => ?_)
  ·refine sr <| la rfl <| la rfl <| en ?_
   refine WT.ret Tryz.func213 (resOk.one rfl) (fun w1 hw => ?_)
   subst hb0
   cases h
   exact post_of_St hw
  refine WT.skip <| ib <| rgn <| la rfl <| la rfl <| en ?_
  exact lback (ih1 (IntKind.i64.wrap (s1 + 1)) h) ⟨rfl, rfl, rfl, rfl, trivial⟩ (fun w1 hw => (hw.sel (js := []) rfl).selO (js := []) rfl)
 refine xt rfl <| sr <| la rfl <| la rfl <| en ?_
 refine WT.ret Tryz.func213 (resOk.one rfl) (fun w1 hw => ?_)
 subst hb0
 cases h
 exact post_of_St hw
theorem m_cmp_isNaN_int_ok {Φ : Hp} {w : World} (hΦ : In Φ w) (N : Nat) (p0 : Int)   {r : Bool} (h : m_cmp_isNaN_int N p0 = some r) :
  Calls Tryz.prog 216 [.int .i64 p0].toArray w (Post (.bool r) w) := by
 refine enter Tryz.func216 rfl Tryz.ntmps216 rfl (St.start0 hΦ) ?_
 unfold m_cmp_isNaN_int at h
 refine sr <| la rfl <| en <| sr <| la rfl <| la rfl <| la rfl <| la rfl <| en ?_
 refine WT.ret Tryz.func216 (resOk.one rfl) (fun w1 hw => ?_)
 cases h
 exact post_of_St hw
theorem m_cmp_Compare_int_ok {Φ : Hp} {w : World} (hΦ : In Φ w) (N : Nat) (p0 : Int) (p1 : Int)   {r : Int} (h : m_cmp_Compare_int N p0 p1 = some r) :
  Calls Tryz.prog 214 [.int .i64 p0, .int .i64 p1].toArray w (Post (.int .i64 r) w) := by
 refine enter Tryz.func214 rfl Tryz.ntmps214 rfl (St.start0 hΦ) ?_
 unfold m_cmp_Compare_int at h
 refine sr <| la rfl <| en <| sr <| la rfl ?_
 obtain ⟨x1, hx1, h⟩ := bs h
 refine lp (p_call Fun_216 rfl (fun w1 hw => m_cmp_isNaN_int_ok hw.fro N p0 hx1)) rfl <| la rfl <| en <| sr <| la rfl ?_
 obtain ⟨x2, hx2, h⟩ := bs h
 refine lp (p_call Fun_216 rfl (fun w1 hw => m_cmp_isNaN_int_ok hw.fro N p1 hx2)) rfl <| la rfl <| en <| sq <| sr <| la rfl <| en ?_
 refine cdh rfl h (fun c1 h => ?_) (fun c1 h => ?_)
 ·refine sq <| sr <| la rfl <| en ?_
  refine cdh rfl h (fun c2 h => ?_) (fun c2 h => ?_)
  ·refine sr <| la rfl <| en ?_
   refine WT.ret Tryz.func214 (resOk.one rfl) (fun w1 hw => ?_)
   cases h
   exact post_of_St hw
  refine WT.skip <| sr <| la rfl <| en ?_
  refine WT.ret Tryz.func214 (resOk.one rfl) (fun w1 hw => ?_)
  cases h
  exact post_of_St hw
 refine WT.skip <| sq <| sr <| la rfl <| en ?_
 refine cdh rfl h (fun c3 h => ?_) (fun c3 h => ?_)
 ·refine sr <| la rfl <| en ?_
  refine WT.ret Tryz.func214 (resOk.one rfl) (fun w1 hw => ?_)
  cases h
  exact post_of_St hw
 refine WT.skip <| sq <| sr <| la rfl <| la rfl <| la rfl <| en ?_
 refine cdh rfl h (fun c4 h => ?_) (fun c4 h => ?_)
 ·refine sr <| la rfl <| en ?_
  refine WT.ret Tryz.func214 (resOk.one rfl) (fun w1 hw => ?_)
  cases h
  exact post_of_St hw
 refine WT.skip <| sq <| sr <| la rfl <| la rfl <| la rfl <| en ?_
 refine cdh rfl h (fun c5 h => ?_) (fun c5 h => ?_)
 ·refine sr <| la rfl <| en ?_
  refine WT.ret Tryz.func214 (resOk.one rfl) (fun w1 hw => ?_)
  cases h
  exact post_of_St hw
 refine WT.skip <| sr <| la rfl <| en ?_
 refine WT.ret Tryz.func214 (resOk.one rfl) (fun w1 hw => ?_)
 cases h
 exact post_of_St hw
theorem m_cmp_isNaN_string_ok {Φ : Hp} {w : World} (hΦ : In Φ w) (N : Nat) (p0 : ByteArray)   {r : Bool} (h : m_cmp_isNaN_string N p0 = some r) :
  Calls Tryz.prog 217 [.string p0].toArray w (Post (.bool r) w) := by
 refine enter Tryz.func217 rfl Tryz.ntmps217 rfl (St.start0 hΦ) ?_
 unfold m_cmp_isNaN_string at h
 refine sr <| la rfl <| en <| sr <| la rfl <| la rfl <| la rfl <| la rfl <| en ?_
 refine WT.ret Tryz.func217 (resOk.one rfl) (fun w1 hw => ?_)
 cases h
 exact post_of_St hw
theorem m_cmp_Compare_string_ok {Φ : Hp} {w : World} (hΦ : In Φ w) (N : Nat) (p0 : ByteArray) (p1 : ByteArray)   {r : Int} (h : m_cmp_Compare_string N p0 p1 = some r) :
  Calls Tryz.prog 215 [.string p0, .string p1].toArray w (Post (.int .i64 r) w) := by
 refine enter Tryz.func215 rfl Tryz.ntmps215 rfl (St.start0 hΦ) ?_
 unfold m_cmp_Compare_string at h
 refine sr <| la rfl <| en <| sr <| la rfl ?_
 obtain ⟨x1, hx1, h⟩ := bs h
 refine lp (p_call Fun_217 rfl (fun w1 hw => m_cmp_isNaN_string_ok hw.fro N p0 hx1)) rfl <| la rfl <| en <| sr <| la rfl ?_
 obtain ⟨x2, hx2, h⟩ := bs h
 refine lp (p_call Fun_217 rfl (fun w1 hw => m_cmp_isNaN_string_ok hw.fro N p1 hx2)) rfl <| la rfl <| en <| sq <| sr <| la rfl <| en ?_
 refine cdh rfl h (fun c1 h => ?_) (fun c1 h => ?_)
 ·refine sq <| sr <| la rfl <| en ?_
  refine cdh rfl h (fun c2 h => ?_) (fun c2 h => ?_)
  ·refine sr <| la rfl <| en ?_
   refine WT.ret Tryz.func215 (resOk.one rfl) (fun w1 hw => ?_)
   cases h
   exact post_of_St hw
  refine WT.skip <| sr <| la rfl <| en ?_
  refine WT.ret Tryz.func215 (resOk.one rfl) (fun w1 hw => ?_)
  cases h
  exact post_of_St hw
 refine WT.skip <| sq <| sr <| la rfl <| en ?_
 refine cdh rfl h (fun c3 h => ?_) (fun c3 h => ?_)
 ·refine sr <| la rfl <| en ?_
  refine WT.ret Tryz.func215 (resOk.one rfl) (fun w1 hw => ?_)
  cases h
  exact post_of_St hw
 refine WT.skip <| sq <| sr <| la rfl <| la rfl <| lq (q_slt rfl rfl) rfl <| en ?_
 refine cdh rfl h (fun c4 h => ?_) (fun c4 h => ?_)
 ·refine sr <| la rfl <| en ?_
  refine WT.ret Tryz.func215 (resOk.one rfl) (fun w1 hw => ?_)
  cases h
  exact post_of_St hw
 refine WT.skip <| sq <| sr <| la rfl <| la rfl <| lq (q_sgt rfl rfl) rfl <| en ?_
 refine cdh rfl h (fun c5 h => ?_) (fun c5 h => ?_)
 ·refine sr <| la rfl <| en ?_
  refine WT.ret Tryz.func215 (resOk.one rfl) (fun w1 hw => ?_)
  cases h
  exact post_of_St hw
 refine WT.skip <| sr <| la rfl <| en ?_
 refine WT.ret Tryz.func215 (resOk.one rfl) (fun w1 hw => ?_)
 cases h
 exact post_of_St hw
theorem m_i_compareVals_ok {Φ : Hp} {w : World} (hΦ : In Φ w) (N : Nat) (p0 : TVal) (p1 : TVal)   {r : Int} (h : m_i_compareVals N p0 p1 = some r) :
  Calls Tryz.prog 212 [.agg [.int .i64 p0.K, .int .i64 p0.N, .string p0.S].toArray, .agg [.int .i64 p1.K, .int .i64 p1.N, .string p1.S].toArray].toArray w (Post (.int .i64 r) w) := by
 refine enter Tryz.func212 rfl Tryz.ntmps212 rfl (St.start0 hΦ) ?_
 unfold m_i_compareVals at h
 refine sr ?_
 refine ln (nb rfl) rfl (fun b_1 => ?_)
 refine ln (nb rfl) rfl (fun b_2 => ?_)
 refine la rfl <| en <| sq <| WT.mix (Kn Φ [] [(b_2, .cells #[.int .i64 p1.K, .int .i64 p1.N, .string p1.S] 85 (0, 0)), (b_1, .cells #[.int .i64 p0.K, .int .i64 p0.N, .string p0.S] 85 (0, 0))]) (fun _ => true) mixed (fun _ h => h.drew) <| mq 0 rfl (by kernel_rfl) (kn Kf.nil (ai2 0 1 rfl rfl)) (q_fieldAddr Fld_85_0 rfl) rfl <| mq 1 rfl (by kernel_rfl) (kn Kf.nil (ai2 0 1 rfl rfl)) (q_load1 T1_3 rfl (fun w1 hw => hw.rgO (i := 1) rfl 0 1 [.int .i64 p0.K] rfl)) rfl ?_
 refine mq 2 rfl (by kernel_rfl) (kn Kf.nil (ai2 0 1 rfl rfl)) (q_fieldAddr Fld_85_0 rfl) rfl <| mq 3 rfl (by kernel_rfl) (kn Kf.nil (ai2 0 1 rfl rfl)) (q_load1 T1_3 rfl (fun w1 hw => hw.rgO (i := 0) rfl 0 1 [.int .i64 p1.K] rfl)) rfl <| mq 5 rfl (by kernel_rfl) (kn Kf.nil (ai2 0 1 rfl rfl)) (q_fieldAddr Fld_85_1 rfl) rfl <| mq 6 rfl (by kernel_rfl) (kn Kf.nil (ai2 0 1 rfl rfl)) (q_load1 T1_3 rfl (fun w1 hw => hw.rgO (i := 1) rfl 1 1 [.int .i64 p0.N] rfl)) rfl ?_
 refine mq 7 rfl (by kernel_rfl) (kn Kf.nil (ai2 0 1 rfl rfl)) (q_fieldAddr Fld_85_1 rfl) rfl <| mq 8 rfl (by kernel_rfl) (kn Kf.nil (ai2 0 1 rfl rfl)) (q_load1 T1_3 rfl (fun w1 hw => hw.rgO (i := 0) rfl 1 1 [.int .i64 p1.N] rfl)) rfl <| mq 10 rfl (by kernel_rfl) (kn Kf.nil (ai2 0 1 rfl rfl)) (q_fieldAddr Fld_85_2 rfl) rfl <| mq 11 rfl (by kernel_rfl) (kn Kf.nil (ai2 0 1 rfl rfl)) (q_load1 T1_9 rfl (fun w1 hw => hw.rgO (i := 1) rfl 2 1 [.string p0.S] rfl)) rfl ?_
 refine mq 12 rfl (by kernel_rfl) (kn Kf.nil (ai2 0 1 rfl rfl)) (q_fieldAddr Fld_85_2 rfl) rfl <| mq 13 rfl (by kernel_rfl) (kn Kf.nil (ai2 0 1 rfl rfl)) (q_load1 T1_9 rfl (fun w1 hw => hw.rgO (i := 0) rfl 2 1 [.string p1.S] rfl)) rfl ?_
 obtain ⟨x1, hx1, h⟩ := bs h
 refine WM.one 4 (by kernel_rfl) (mp rfl (fun _ w1 hw => Kn.of Kf.nil (ai2 0 1 rfl rfl) hw) (p_call Fun_214 rfl (fun w1 hw => m_cmp_Compare_int_ok hw.fro N p0.K p1.K hx1)) rfl ?_)
 obtain ⟨x2, hx2, h⟩ := bs h
 refine WM.one 9 (by kernel_rfl) (mp rfl (fun _ w1 hw => Kn.of Kf.nil (ai2 0 1 rfl rfl) hw) (p_call Fun_214 rfl (fun w1 hw => m_cmp_Compare_int_ok hw.fro N p0.N p1.N hx2)) rfl ?_)
 obtain ⟨x3, hx3, h⟩ := bs h
 refine WM.one 14 (by kernel_rfl) (mp rfl (fun _ w1 hw => Kn.of Kf.nil (ai2 0 1 rfl rfl) hw) (p_call Fun_215 rfl (fun w1 hw => m_cmp_Compare_string_ok hw.fro N p0.S p1.S hx3)) rfl ?_)
 have rc1 : RC (RI .i64) 1 Φ ([[], [], []] : List (List Nat)) [.int .i64 x1, .int .i64 x2, .int .i64 x3] ([x1, x2, x3] : List Int) := RC.cons (c := [.int .i64 x1]) (cells := [.int .i64 x2, .int .i64 x3]) ⟨rfl, rfl⟩ rfl (RC.cons (c := [.int .i64 x2]) (cells := [.int .i64 x3]) ⟨rfl, rfl⟩ rfl (RC.cons (c := [.int .i64 x3]) (cells := []) ⟨rfl, rfl⟩ rfl (RC.nil _ _ _)))
 refine WM.one 15 (by kernel_rfl) (me rfl (fun _ v Φx D w1 hq hw => Kn.of Kf.nil (ai2 0 1 rfl rfl) hw) (e_lit (vs := [(0, .int .i64 x1), (1, .int .i64 x2), (2, .int .i64 x3)]) (C := #[.int .i64 x1, .int .i64 x2, .int .i64 x3]) RI.lasts Sl_41 Zr_3 rfl rfl rfl rfl (fill_made MC_3_3 (fill_cons (C' := [.int .i64 x1, .int .i64 0, .int .i64 0]) rfl rfl rfl rfl rfl (fill_cons (C' := [.int .i64 x1, .int .i64 x2, .int .i64 0]) rfl rfl rfl rfl rfl (fill_cons (C' := [.int .i64 x1, .int .i64 x2, .int .i64 x3]) rfl rfl rfl rfl rfl (fill_nil))))) rfl rc1 rfl (by simpa using Kw.nil)) rfl (fun v1 Φ_1 D1 q1 => ?_))
 obtain ⟨fr1, h1⟩ := q1
 replace h1 : OSl (RI .i64) 3 1 Φ_1 [] v1 ([x1, x2, x3] : List Int) := by simpa using h1
 obtain ⟨x4, hx4, h⟩ := bs h
 refine WM.one 16 (by kernel_rfl) (mp rfl (fun _ w1 hw => Kn.of Kf.nil (ai2 0 1 rfl rfl) hw) (p_call Fun_213 rfl (fun w1 hw => m_cmp_Or_int_ok hw.fro N ([x1, x2, x3] : List Int) h1.rsl hx4)) rfl ?_)
 refine ma 17 rfl (by kernel_rfl) (kn Kf.nil (ai2 0 1 rfl rfl)) rfl <| WM.nil (by kernel_rfl) ?_
 refine WT.ret Tryz.func212 (resOk.one rfl) (fun w1 hw => ?_)
 cases h
 exact post_of_St hw
theorem m_i_LessVal_ok {Φ : Hp} {w : World} (hΦ : In Φ w) (N : Nat) (p0 : TVal) (p1 : TVal)   {r : Bool} (h : m_i_LessVal N p0 p1 = some r) :
  Calls Tryz.prog 205 [.agg [.int .i64 p0.K, .int .i64 p0.N, .string p0.S].toArray, .agg [.int .i64 p1.K, .int .i64 p1.N, .string p1.S].toArray].toArray w (Post (.bool r) w) := by
 refine enter Tryz.func205 rfl Tryz.ntmps205 rfl (St.start0 hΦ) ?_
 unfold m_i_LessVal at h
 refine sr ?_
 refine ln (nb rfl) rfl (fun b_1 => ?_)
 refine ln (nb rfl) rfl (fun b_2 => ?_)
 refine la rfl <| en <| sr <| ld3 Tn_85 1 rfl <| ld3 Tn_85 0 rfl ?_
 obtain ⟨x1, hx1, h⟩ := bs h
 refine lp (p_call Fun_212 rfl (fun w1 hw => m_i_compareVals_ok hw.fro N p0 p1 hx1)) rfl <| la rfl <| la rfl <| en ?_
 refine WT.ret Tryz.func205 (resOk.one rfl) (fun w1 hw => ?_)
 cases h
 exact post_of_St hw
theorem m_i_Holds_ok {Φ : Hp} {w : World} (hΦ : In Φ w) (N : Nat) (p0 : TCond) (p1 : (List TBind)) {pv1 : Value} {pG1 : List Nat} (ph1 : RSl RTBind 4 Φ pG1 pv1 p1) {r : Bool} (h : m_i_Holds N p0 p1 = some r) :
  Calls Tryz.prog 185 [.agg [.int .i64 p0.Op, .int .i64 p0.L.K, .string p0.L.S, .int .i64 p0.L.V.K, .int .i64 p0.L.V.N, .string p0.L.V.S, .int .i64 p0.R.K, .string p0.R.S, .int .i64 p0.R.V.K, .int .i64 p0.R.V.N, .string p0.R.V.S].toArray, pv1].toArray w (Post (.bool r) w) := by
 refine enter Tryz.func185 rfl Tryz.ntmps185 rfl (St.start0 hΦ) ?_
 unfold m_i_Holds at h
 refine sr ?_
 refine ln (nb rfl) rfl (fun b_1 => ?_)
 refine la rfl <| en <| sr <| lf Fld_139_1 rfl rfl rfl <| ld5 Tn_137 0 rfl <| la rfl ?_
 obtain ⟨x1, hx1, h⟩ := bs h
 refine lp (p_call Fun_204 rfl (fun w1 hw => m_i_ArgVal_ok hw.fro N p0.L p1 ph1 hx1)) rfl <| la rfl <| lq (q_extract rfl rfl) rfl <| lq (q_extract rfl rfl) rfl ?_
 refine ln (nz Zr_85) rfl (fun b_2 => ?_)
 refine soN 0 Sz_85 rfl ⟨rfl, rfl, rfl, trivial⟩ rfl ?_
 refine la rfl <| en <| sr <| lf Fld_139_2 rfl rfl rfl <| ld5 Tn_137 1 rfl <| la rfl ?_
 obtain ⟨x2, hx2, h⟩ := bs h
 refine lp (p_call Fun_204 rfl (fun w1 hw => m_i_ArgVal_ok hw.fro N p0.R p1 ph1 hx2)) rfl <| la rfl <| lq (q_extract rfl rfl) rfl <| lq (q_extract rfl rfl) rfl ?_
 refine ln (nz Zr_85) rfl (fun b_3 => ?_)
 refine soN 0 Sz_85 rfl ⟨rfl, rfl, rfl, trivial⟩ rfl ?_
 refine la rfl <| en <| sq <| sr <| la rfl <| la rfl <| la rfl ?_
 obtain ⟨b1, hb_1, h⟩ := bs h
 refine WL.cutN 3 [(28, .bool b1), (2, .pointer (some ⟨b_1, 0, none⟩)), (5, .pointer (some ⟨b_2, 0, none⟩)), (7, .pointer (some ⟨b_3, 0, none⟩))] ?_ (fun K => ?_)
 rotate_left
 ·refine spl 25 rfl hb_1 (fun c1 hb_1 => ?_) (fun c1 hb_1 => ?_)
  ·refine la rfl <| la rfl <| la rfl ?_
   cases hb_1
   exact kk K ⟨rfl, rfl, rfl, rfl, trivial⟩
  ·refine ly rfl rfl <| la rfl <| ly rfl rfl <| la rfl <| la rfl ?_
   cases hb_1
   exact kk K ⟨rfl, rfl, rfl, rfl, trivial⟩
 refine en ?_
 refine cdh rfl h (fun c2 h => ?_) (fun c2 h => ?_)
 ·refine sr <| la rfl <| en ?_
  refine WT.ret Tryz.func185 (resOk.one rfl) (fun w1 hw => ?_)
  cases h
  exact post_of_St hw
 refine WT.skip <| sq <| sr <| lf Fld_139_0 rfl rfl rfl <| lo T1_3 2 rfl <| en <| blk <| sr <| la rfl <| la rfl <| en ?_
 refine cdh rfl h (fun c3 h => ?_) (fun c3 h => ?_)
 ·refine sr <| ld3 Tn_85 1 rfl <| ld3 Tn_85 0 rfl <| lq (q_eqA EqT_85 rfl rfl rfl (r := eqT_TVal x1.1 x2.1) rfl) rfl <| la rfl <| en ?_
  refine WT.ret Tryz.func185 (resOk.one rfl) (fun w1 hw => ?_)
  cases h
  exact post_of_St hw
 refine sr <| la rfl <| la rfl <| en ?_
 refine cdh rfl h (fun c4 h => ?_) (fun c4 h => ?_)
 ·refine sr <| ld3 Tn_85 1 rfl <| ld3 Tn_85 0 rfl <| lq (q_neA EqT_85 rfl rfl rfl (r := eqT_TVal x1.1 x2.1) rfl) rfl <| la rfl <| en ?_
  refine WT.ret Tryz.func185 (resOk.one rfl) (fun w1 hw => ?_)
  cases h
  exact post_of_St hw
 refine sr <| la rfl <| la rfl <| en ?_
 refine cdh rfl h (fun c5 h => ?_) (fun c5 h => ?_)
 ·refine sr <| ld3 Tn_85 1 rfl <| ld3 Tn_85 0 rfl ?_
  obtain ⟨x3, hx3, h⟩ := bs h
  refine lp (p_call Fun_205 rfl (fun w1 hw => m_i_LessVal_ok hw.fro N x1.1 x2.1 hx3)) rfl <| la rfl <| en ?_
  refine WT.ret Tryz.func185 (resOk.one rfl) (fun w1 hw => ?_)
  cases h
  exact post_of_St hw
 refine WT.skip <| ib <| sr <| la rfl <| en ?_
 refine WT.ret Tryz.func185 (resOk.one rfl) (fun w1 hw => ?_)
 cases h
 exact post_of_St hw
theorem m_i_HoldAll_ok {Φ : Hp} {w : World} (hΦ : In Φ w) (N : Nat) (p0 : (List TCond)) (p1 : (List TBind)) {pv0 pv1 : Value} {pG0 pG1 : List Nat} (ph0 : RSl RTCond 11 Φ pG0 pv0 p0) (ph1 : RSl RTBind 4 Φ pG1 pv1 p1) {r : Bool} (h : m_i_HoldAll N p0 p1 = some r) :
  Calls Tryz.prog 151 [pv0, pv1].toArray w (Post (.bool r) w) := by
 refine enter Tryz.func151 rfl Tryz.ntmps151 rfl (St.start0 hΦ) ?_
 generalize hb0 : (⟨w, [], Φ⟩ : Base) = w0
 unfold m_i_HoldAll at h
 refine sr <| la rfl <| en <| sq <| sr <| la rfl <| lq (q_lenR Sl_37 rfl rfl ph0) rfl <| la rfl <| en <| blk ?_
 refine loop_in (σ := Int) (fun s => [(1, pv1), (7, pv0), (8, .int .i64 (p0.length : Int)), (9, .int .i64 s)]) (fun s => St w0 Φ [] []) (fun m s => m_i_HoldAll_l1 N p0 p1 m s = some r) (0) N h ⟨rfl, rfl, rfl, rfl, trivial⟩ (fun w1 hw => (hw.sel (js := []) rfl).selO (js := []) rfl) (fun s hm => none_ne hm) (fun n1 ih1 s hm => ?_)
 revert hm; revert s; intro s1 hm
 have h : m_i_HoldAll_l1 N p0 p1 (n1 + 1) s1 = some r := hm
 show WT _ _ [(1, pv1), (7, pv0), (8, .int .i64 (p0.length : Int)), (9, .int .i64 s1)] (St w0 Φ [] [])
 unfold m_i_HoldAll_l1 at h
 refine sr <| la rfl <| en <| sq ?_
 refine cdh rfl h (fun c1 h => ?_) (fun c1 h => ?_)
 ·refine WT.skip <| sq <| blk <| sr ?_
  obtain ⟨x1, hx1, h⟩ := bs h
  obtain ⟨cs1, F1, -, g1, hb1, hs1, r1⟩ := ph0.el (idx_some hx1).2.2
  obtain ⟨rfl, -⟩ := r1
  refine lq (q_indexAddr Sl_37 rfl rfl ph0 hx1) rfl <| lg11 0 Tn_139 g1 rfl rfl ?_
  refine ln (nz Zr_139) rfl (fun b_1 => ?_)
  refine soN 0 Sz_139 rfl ⟨rfl, rfl, rfl, rfl, rfl, rfl, rfl, rfl, rfl, rfl, rfl, trivial⟩ rfl ?_
  refine en <| sr <| ld11 Tn_139 0 rfl <| la rfl ?_
  obtain ⟨x2, hx2, h⟩ := bs h
  refine lp (p_call Fun_185 rfl (fun w1 hw => m_i_Holds_ok hw.fro N x1 p1 ph1 hx2)) rfl <| la rfl <| en ?_
  refine cdh rfl h (fun c2 h => ?_) (fun c2 h => ?_)
  ·refine sr <| la rfl <| en ?_
   refine WT.ret Tryz.func151 (resOk.one rfl) (fun w1 hw => ?_)
   subst hb0
   cases h
   exact post_of_St hw
  refine WT.skip <| ib <| rgn <| la rfl <| la rfl <| en ?_
  exact lback (ih1 (IntKind.i64.wrap (s1 + 1)) h) ⟨rfl, rfl, rfl, rfl, trivial⟩ (fun w1 hw => (hw.sel (js := []) rfl).selO (js := []) rfl)
 refine xt rfl <| sr <| la rfl <| en ?_
 refine WT.ret Tryz.func151 (resOk.one rfl) (fun w1 hw => ?_)
 subst hb0
 cases h
 exact post_of_St hw
theorem m_sl_Clone_Sint_int_ok {Φ : Hp} {w : World} (hΦ : In Φ w) (N : Nat) (p0 : (List Int)) {pv0 : Value} {pG0 : List Nat} (ph0 : RSl (RI .i64) 1 Φ pG0 pv0 p0) {r : (List Int)} (h : m_sl_Clone_Sint_int N p0 = some r) :
  Calls Tryz.prog 152 [pv0].toArray w (PostG Φ w [] (fun Φ' Fs v => ∃ (sr_0_0 : Value), v = sr_0_0 ∧ Fs = [ob sr_0_0] ∧ OSl (RI .i64) 3 1 Φ' [] sr_0_0 r)) := by
 refine enter Tryz.func152 rfl Tryz.ntmps152 rfl (St.start0 hΦ) ?_
 unfold m_sl_Clone_Sint_int at h
 refine sr <| la rfl <| en <| sq <| sq ?_
 rcases RSl.nilOr ph0 with ⟨hxs1, cc1, hv1⟩ | ⟨a1, cc1, hv1⟩
 ·replace h : some [] = some r := by simpa [hxs1, app] using h
  refine rgn <| la rfl <| lq (q_eqNil Sl_41 (congrArg some hv1) rfl) rfl <| en ?_
  refine cd rfl (fun c => ?_) (fun c => by simp at c)
  refine sr <| la rfl <| en ?_
  refine WT.ret Tryz.func152 (resOk.one rfl) (fun w1 hw => ?_)
  cases h
  replace hw := hw.addNil
  refine postG_of_St (js := [0]) hw rfl ⟨.slice none 0 0, rfl, rfl, OSl.nil _ _ _ _⟩
 refine rgn <| la rfl <| lq (q_eqNil Sl_41 (congrArg some hv1) rfl) rfl <| en ?_
 refine cd rfl (fun c => by simp at c) (fun c => ?_)
 refine WT.skip <| sr ?_
 refine le' (e_lit0 (R := RI .i64) RI.lasts Sl_41 Zr_3 rfl rfl) rfl (fun v1 Φ_1 D1 q1 => ?_)
 obtain ⟨fr1, h1⟩ := q1
 replace ph0 := ph0.frame RI.lasts fr1 (Dj.empty _)
 refine la rfl ?_
 obtain ⟨x1, hx1, h⟩ := bs h
 refine le' (e_appF RI.lasts RI.one RI.flat Sl_41 Ei_3 rfl rfl rfl rfl rfl (js := [0]) (Rr := []) rfl h1 ph0 hx1) rfl (fun v2 Φ_2 D2 q2 => ?_)
 obtain ⟨⟨ap1, fr2⟩, h2⟩ := q2
 refine la rfl <| en ?_
 refine WT.ret Tryz.func152 (resOk.one rfl) (fun w1 hw => ?_)
 cases h
 refine postG_of_St (js := [0]) hw rfl ⟨v2, rfl, rfl, h2⟩
end Go.Proofs.YtelchcokfcdndaaGreat
