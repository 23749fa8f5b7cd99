/- Printed by a program of ours: each Go function computes its Lean function. -/
import Derived.Test.YtelchcokfcdndaaGreatProg
import Derived.Test.YtelchcokfcdndaaGreatWExactAllMatchesWalk4
namespace Go.Proofs.YtelchcokfcdndaaGreat
open Eng
open Go.RowKit (Below)
set_option linter.unusedVariables false
set_option linter.unusedSimpArgs false

set_option maxRecDepth 100000
set_option maxHeartbeats 1000000
theorem m_l_heldMatchS_ok {Φ : Hp} {w : World} (hΦ : In Φ w) (N : Nat) (p0 : (List TMatch)) (p1 : Int) {pv0 : Value} {pG0 : List Nat} (ph0 : RSl RTMatch 3 Φ pG0 pv0 p0) {r : Int} (h : m_l_heldMatchS N p0 p1 = some r) :
  Calls Tryz.prog 25 [pv0, .int .i64 p1].toArray w (Post (.int .i64 r) w) := by
 refine enter Tryz.func25 rfl Tryz.ntmps25 rfl (St.start0 hΦ) ?_
 generalize hb0 : (⟨w, [], Φ⟩ : Base) = w0
 unfold m_l_heldMatchS at h
 refine sr <| la rfl <| en <| sq <| sr <| la rfl <| en <| blk ?_
 refine loop_in (σ := Int × Int) (fun s => [(0, pv0), (1, .int .i64 s.1), (5, .int .i64 s.2)]) (fun s => St w0 Φ [] []) (fun m s => m_l_heldMatchS_l1 N p0 m s.1 s.2 = some r) (p1, 0) N h ⟨rfl, rfl, rfl, trivial⟩ (fun w1 hw => (hw.sel (js := []) rfl).selO (js := []) rfl) (fun s hm => none_ne hm) (fun n1 ih1 s hm => ?_)
 obtain ⟨s1, s2⟩ := s
 have h : m_l_heldMatchS_l1 N p0 (n1 + 1) s1 s2 = some r := hm
 show WT _ _ [(0, pv0), (1, .int .i64 s1), (5, .int .i64 s2)] (St w0 Φ [] [])
 unfold m_l_heldMatchS_l1 at h
 refine sq <| sr <| la rfl <| la rfl <| lq (q_lenR Sl_32 rfl rfl ph0) rfl <| la rfl <| en ?_
 refine cdh rfl h (fun c1 h => ?_) (fun c1 h => ?_)
 ·refine WT.skip <| sq <| blk <| sq <| sr <| la rfl <| la rfl ?_
  obtain ⟨x1, hx1, h⟩ := bs h
  obtain ⟨cs1, F1, -, g1, hb1, hs1, r1⟩ := ph0.el (idx_some hx1).2.2
  obtain ⟨v1, G1, v2, G2, rfl, rfl, h1, h2⟩ := r1
  refine lq (q_indexAddr Sl_32 rfl rfl ph0 hx1) rfl <| lf Fld_44_0 rfl rfl rfl <| lg 0 T1_3 g1 rfl rfl <| la rfl <| la rfl <| en ?_
  refine cdh rfl h (fun c2 h => ?_) (fun c2 h => ?_)
  ·refine sr <| la rfl <| en ?_
   refine WT.ret Tryz.func25 (resOk.one rfl) (fun w1 hw => ?_)
   subst hb0
   cases h
   exact post_of_St hw
  refine WT.skip <| sr <| la rfl <| la rfl <| la rfl <| en <| sr <| la rfl <| la rfl ?_
  obtain ⟨x2, hx2, h⟩ := bs h
  obtain ⟨cs2, F2, -, g2, hb2, hs2, r2⟩ := ph0.el (idx_some hx2).2.2
  obtain ⟨v3, G3, v4, G4, rfl, rfl, h3, h4⟩ := r2
  refine lq (q_indexAddr Sl_32 rfl rfl ph0 hx2) rfl <| lf Fld_44_1 rfl rfl rfl <| lg 1 T1_41 g2 rfl rfl <| la rfl ?_
  obtain ⟨x3, hx3, h⟩ := bs h
  refine lp (p_call Fun_66 rfl (fun w1 hw => m_l_heldIntS_ok hw.fro N x2.Ids (IntKind.i64.wrap (s1 + 1)) h3 hx3)) rfl <| la rfl <| en <| sq <| sr <| la rfl <| la rfl <| en ?_
  refine cdh rfl h (fun c3 h => ?_) (fun c3 h => ?_)
  ·refine sr <| la rfl <| en ?_
   refine WT.ret Tryz.func25 (resOk.one rfl) (fun w1 hw => ?_)
   subst hb0
   cases h
   exact post_of_St hw
  refine WT.skip <| sr <| la rfl <| la rfl ?_
  obtain ⟨x4, hx4, h⟩ := bs h
  obtain ⟨cs3, F3, -, g3, hb3, hs3, r3⟩ := ph0.el (idx_some hx4).2.2
  obtain ⟨v5, G5, v6, G6, rfl, rfl, h5, h6⟩ := r3
  refine lq (q_indexAddr Sl_32 rfl rfl ph0 hx4) rfl <| lf Fld_44_2 rfl rfl rfl <| lg 2 T1_42 g3 rfl rfl <| la rfl ?_
  obtain ⟨x5, hx5, h⟩ := bs h
  refine lp (p_call Fun_67 rfl (fun w1 hw => m_l_heldBindS_ok hw.fro N x4.Binds x3 h6 hx5)) rfl <| la rfl <| en <| sr <| la rfl <| la rfl <| en ?_
  refine cdh rfl h (fun c4 h => ?_) (fun c4 h => ?_)
  ·refine sr <| la rfl <| en ?_
   refine WT.ret Tryz.func25 (resOk.one rfl) (fun w1 hw => ?_)
   subst hb0
   cases h
   exact post_of_St hw
  refine WT.skip <| ib <| rgn <| la rfl <| la rfl <| la rfl <| en ?_
  exact lback (ih1 (x5, IntKind.i64.wrap (s2 + 1)) h) ⟨rfl, rfl, rfl, trivial⟩ (fun w1 hw => (hw.sel (js := []) rfl).selO (js := []) rfl)
 refine xt rfl <| sr <| la rfl <| la rfl <| en ?_
 refine WT.ret Tryz.func25 (resOk.one rfl) (fun w1 hw => ?_)
 subst hb0
 cases h
 exact post_of_St hw
theorem m_l_szArg_ok {Φ : Hp} {w : World} (hΦ : In Φ w) (N : Nat) (p0 : TArg) (p1 : Int)   {r : Int} (h : m_l_szArg N p0 p1 = some r) :
  Calls Tryz.prog 158 [.agg [.int .i64 p0.K, .string p0.S, .int .i64 p0.V.K, .int .i64 p0.V.N, .string p0.V.S].toArray, .int .i64 p1].toArray w (Post (.int .i64 r) w) := by
 refine enter Tryz.func158 rfl Tryz.ntmps158 rfl (St.start0 hΦ) ?_
 unfold m_l_szArg at h
 refine sr ?_
 refine ln (nb rfl) rfl (fun b_1 => ?_)
 refine la rfl <| en <| sr <| la rfl <| lf Fld_156_1 rfl rfl rfl <| lo T1_9 0 rfl <| lq (q_lenS Str_9 rfl rfl) rfl <| la rfl <| la rfl <| en <| sq <| sr <| la rfl <| la rfl <| en ?_
 refine cdh rfl h (fun c1 h => ?_) (fun c1 h => ?_)
 ·refine sr <| la rfl <| en ?_
  refine WT.ret Tryz.func158 (resOk.one rfl) (fun w1 hw => ?_)
  cases h
  exact post_of_St hw
 refine WT.skip <| sr <| lf Fld_156_2 rfl rfl rfl <| ld3 Tn_154 0 rfl <| la rfl ?_
 obtain ⟨x1, hx1, h⟩ := bs h
 refine lp (p_call Fun_189 rfl (fun w1 hw => m_l_szVal_ok hw.fro N p0.V (IntKind.i64.wrap (p1 - (p0.S.size : Int))) hx1)) rfl <| la rfl <| en <| sq <| sr <| la rfl <| la rfl <| en ?_
 refine cdh rfl h (fun c2 h => ?_) (fun c2 h => ?_)
 ·refine sr <| la rfl <| en ?_
  refine WT.ret Tryz.func158 (resOk.one rfl) (fun w1 hw => ?_)
  cases h
  exact post_of_St hw
 refine WT.skip <| sr <| la rfl <| la rfl <| en ?_
 refine WT.ret Tryz.func158 (resOk.one rfl) (fun w1 hw => ?_)
 cases h
 exact post_of_St hw
theorem m_l_szArgS_ok {Φ : Hp} {w : World} (hΦ : In Φ w) (N : Nat) (p0 : (List TArg)) (p1 : Int) {pv0 : Value} {pG0 : List Nat} (ph0 : RSl RTArg 5 Φ pG0 pv0 p0) {r : Int} (h : m_l_szArgS N p0 p1 = some r) :
  Calls Tryz.prog 157 [pv0, .int .i64 p1].toArray w (Post (.int .i64 r) w) := by
 refine enter Tryz.func157 rfl Tryz.ntmps157 rfl (St.start0 hΦ) ?_
 generalize hb0 : (⟨w, [], Φ⟩ : Base) = w0
 unfold m_l_szArgS at h
 refine sr <| la rfl <| en <| sr <| la rfl <| la rfl <| lq (q_lenR Sl_150 rfl rfl ph0) rfl <| la rfl <| la rfl <| en <| sq <| sr <| la rfl <| la rfl <| en ?_
 refine cdh rfl h (fun c1 h => ?_) (fun c1 h => ?_)
 ·refine sr <| la rfl <| en ?_
  refine WT.ret Tryz.func157 (resOk.one rfl) (fun w1 hw => ?_)
  subst hb0
  cases h
  exact post_of_St hw
 refine WT.skip <| sq <| sr <| la rfl <| en <| blk ?_
 refine loop_in (σ := Int × Int) (fun s => [(0, pv0), (1, .int .i64 s.1), (5, .int .i64 s.2)]) (fun s => St w0 Φ [] []) (fun m s => m_l_szArgS_l1 N p0 m s.1 s.2 = some r) (IntKind.i64.wrap (p1 - (p0.length : Int)), 0) N h ⟨rfl, rfl, rfl, trivial⟩ (fun w1 hw => (hw.sel (js := []) rfl).selO (js := []) rfl) (fun s hm => none_ne hm) (fun n1 ih1 s hm => ?_)
 obtain ⟨s1, s2⟩ := s
 have h : m_l_szArgS_l1 N p0 (n1 + 1) s1 s2 = some r := hm
 show WT _ _ [(0, pv0), (1, .int .i64 s1), (5, .int .i64 s2)] (St w0 Φ [] [])
 unfold m_l_szArgS_l1 at h
 refine sq <| sr <| la rfl <| la rfl <| lq (q_lenR Sl_150 rfl rfl ph0) rfl <| la rfl <| en ?_
 refine cdh rfl h (fun c2 h => ?_) (fun c2 h => ?_)
 ·refine WT.skip <| sq <| blk <| sr <| la rfl <| la rfl ?_
  obtain ⟨x1, hx1, h⟩ := bs h
  obtain ⟨cs1, F1, -, g1, hb1, hs1, r1⟩ := ph0.el (idx_some hx1).2.2
  obtain ⟨rfl, -⟩ := r1
  refine lq (q_indexAddr Sl_150 rfl rfl ph0 hx1) rfl <| lg5 0 Tn_156 g1 rfl rfl <| la rfl ?_
  obtain ⟨x2, hx2, h⟩ := bs h
  refine lp (p_call Fun_158 rfl (fun w1 hw => m_l_szArg_ok hw.fro N x1 s1 hx2)) rfl <| la rfl <| en <| sr <| la rfl <| la rfl <| en ?_
  refine cdh rfl h (fun c3 h => ?_) (fun c3 h => ?_)
  ·refine sr <| la rfl <| en ?_
   refine WT.ret Tryz.func157 (resOk.one rfl) (fun w1 hw => ?_)
   subst hb0
   cases h
   exact post_of_St hw
  refine WT.skip <| ib <| rgn <| la rfl <| la rfl <| la rfl <| en ?_
  exact lback (ih1 (x2, IntKind.i64.wrap (s2 + 1)) h) ⟨rfl, rfl, rfl, trivial⟩ (fun w1 hw => (hw.sel (js := []) rfl).selO (js := []) rfl)
 refine xt rfl <| sr <| la rfl <| la rfl <| en ?_
 refine WT.ret Tryz.func157 (resOk.one rfl) (fun w1 hw => ?_)
 subst hb0
 cases h
 exact post_of_St hw
theorem m_l_szPat_ok {Φ : Hp} {w : World} (hΦ : In Φ w) (N : Nat) (p0 : TPat) (p1 : Int) {pv0_0 : Value} {pG0_0 : List Nat} (ph0_0 : RSl RTArg 5 Φ pG0_0 pv0_0 p0.Args) {r : Int} (h : m_l_szPat N p0 p1 = some r) :
  Calls Tryz.prog 101 [.agg [.string p0.Kind, pv0_0, .bool p0.Not].toArray, .int .i64 p1].toArray w (Post (.int .i64 r) w) := by
 refine enter Tryz.func101 rfl Tryz.ntmps101 rfl (St.start0 hΦ) ?_
 unfold m_l_szPat at h
 refine sr ?_
 refine ln (nb rfl) rfl (fun b_1 => ?_)
 refine la rfl <| en <| sr <| la rfl <| lf Fld_152_0 rfl rfl rfl <| lo T1_9 0 rfl <| lq (q_lenS Str_9 rfl rfl) rfl <| la rfl <| la rfl <| en <| sq <| sr <| la rfl <| la rfl <| en ?_
 refine cdh rfl h (fun c1 h => ?_) (fun c1 h => ?_)
 ·refine sr <| la rfl <| en ?_
  refine WT.ret Tryz.func101 (resOk.one rfl) (fun w1 hw => ?_)
  cases h
  exact post_of_St hw
 refine WT.skip <| sr <| lf Fld_152_1 rfl rfl rfl <| lo T1_150 0 rfl <| la rfl ?_
 obtain ⟨x1, hx1, h⟩ := bs h
 refine lp (p_call Fun_157 rfl (fun w1 hw => m_l_szArgS_ok hw.fro N p0.Args (IntKind.i64.wrap (p1 - (p0.Kind.size : Int))) ph0_0 hx1)) rfl <| la rfl <| en <| sq <| sr <| la rfl <| la rfl <| en ?_
 refine cdh rfl h (fun c2 h => ?_) (fun c2 h => ?_)
 ·refine sr <| la rfl <| en ?_
  refine WT.ret Tryz.func101 (resOk.one rfl) (fun w1 hw => ?_)
  cases h
  exact post_of_St hw
 refine WT.skip <| sr <| la rfl <| la rfl <| en ?_
 refine WT.ret Tryz.func101 (resOk.one rfl) (fun w1 hw => ?_)
 cases h
 exact post_of_St hw
theorem m_l_szPatS_ok {Φ : Hp} {w : World} (hΦ : In Φ w) (N : Nat) (p0 : (List TPat)) (p1 : Int) {pv0 : Value} {pG0 : List Nat} (ph0 : RSl RTPat 3 Φ pG0 pv0 p0) {r : Int} (h : m_l_szPatS N p0 p1 = some r) :
  Calls Tryz.prog 46 [pv0, .int .i64 p1].toArray w (Post (.int .i64 r) w) := by
 refine enter Tryz.func46 rfl Tryz.ntmps46 rfl (St.start0 hΦ) ?_
 generalize hb0 : (⟨w, [], Φ⟩ : Base) = w0
 unfold m_l_szPatS at h
 refine sr <| la rfl <| en <| sr <| la rfl <| la rfl <| lq (q_lenR Sl_47 rfl rfl ph0) rfl <| la rfl <| la rfl <| en <| sq <| sr <| la rfl <| la rfl <| en ?_
 refine cdh rfl h (fun c1 h => ?_) (fun c1 h => ?_)
 ·refine sr <| la rfl <| en ?_
  refine WT.ret Tryz.func46 (resOk.one rfl) (fun w1 hw => ?_)
  subst hb0
  cases h
  exact post_of_St hw
 refine WT.skip <| sq <| sr <| la rfl <| en <| blk ?_
 refine loop_in (σ := Int × Int) (fun s => [(0, pv0), (1, .int .i64 s.1), (5, .int .i64 s.2)]) (fun s => St w0 Φ [] []) (fun m s => m_l_szPatS_l1 N p0 m s.1 s.2 = some r) (IntKind.i64.wrap (p1 - (p0.length : Int)), 0) N h ⟨rfl, rfl, rfl, trivial⟩ (fun w1 hw => (hw.sel (js := []) rfl).selO (js := []) rfl) (fun s hm => none_ne hm) (fun n1 ih1 s hm => ?_)
 obtain ⟨s1, s2⟩ := s
 have h : m_l_szPatS_l1 N p0 (n1 + 1) s1 s2 = some r := hm
 show WT _ _ [(0, pv0), (1, .int .i64 s1), (5, .int .i64 s2)] (St w0 Φ [] [])
 unfold m_l_szPatS_l1 at h
 refine sq <| sr <| la rfl <| la rfl <| lq (q_lenR Sl_47 rfl rfl ph0) rfl <| la rfl <| en ?_
 refine cdh rfl h (fun c2 h => ?_) (fun c2 h => ?_)
 ·refine WT.skip <| sq <| blk <| sr <| la rfl <| la rfl ?_
  obtain ⟨x1, hx1, h⟩ := bs h
  obtain ⟨cs1, F1, -, g1, hb1, hs1, r1⟩ := ph0.el (idx_some hx1).2.2
  obtain ⟨v1, G1, rfl, hq1, h1⟩ := r1
  obtain rfl := hq1.symm
  refine lq (q_indexAddr Sl_47 rfl rfl ph0 hx1) rfl <| lg3 0 Tn_152 g1 rfl rfl <| la rfl ?_
  obtain ⟨x2, hx2, h⟩ := bs h
  refine lp (p_call Fun_101 rfl (fun w1 hw => m_l_szPat_ok hw.fro N x1 s1 h1 hx2)) rfl <| la rfl <| en <| sr <| la rfl <| la rfl <| en ?_
  refine cdh rfl h (fun c3 h => ?_) (fun c3 h => ?_)
  ·refine sr <| la rfl <| en ?_
   refine WT.ret Tryz.func46 (resOk.one rfl) (fun w1 hw => ?_)
   subst hb0
   cases h
   exact post_of_St hw
  refine WT.skip <| ib <| rgn <| la rfl <| la rfl <| la rfl <| en ?_
  exact lback (ih1 (x2, IntKind.i64.wrap (s2 + 1)) h) ⟨rfl, rfl, rfl, trivial⟩ (fun w1 hw => (hw.sel (js := []) rfl).selO (js := []) rfl)
 refine xt rfl <| sr <| la rfl <| la rfl <| en ?_
 refine WT.ret Tryz.func46 (resOk.one rfl) (fun w1 hw => ?_)
 subst hb0
 cases h
 exact post_of_St hw
theorem m_l_szCond_ok {Φ : Hp} {w : World} (hΦ : In Φ w) (N : Nat) (p0 : TCond) (p1 : Int)   {r : Int} (h : m_l_szCond N p0 p1 = some r) :
  Calls Tryz.prog 102 [.agg [.int .i64 p0.Op, .int .i64 p0.L.K, .string p0.L.S, .int .i64 p0.L.V.K, .int .i64 p0.L.V.N, .string p0.L.V.S, .int .i64 p0.R.K, .string p0.R.S, .int .i64 p0.R.V.K, .int .i64 p0.R.V.N, .string p0.R.V.S].toArray, .int .i64 p1].toArray w (Post (.int .i64 r) w) := by
 refine enter Tryz.func102 rfl Tryz.ntmps102 rfl (St.start0 hΦ) ?_
 unfold m_l_szCond at h
 refine sr ?_
 refine ln (nb rfl) rfl (fun b_1 => ?_)
 refine la rfl <| en <| sr <| lf Fld_158_1 rfl rfl rfl <| ld5 Tn_156 0 rfl <| la rfl ?_
 obtain ⟨x1, hx1, h⟩ := bs h
 refine lp (p_call Fun_158 rfl (fun w1 hw => m_l_szArg_ok hw.fro N p0.L p1 hx1)) rfl <| la rfl <| en <| sq <| sr <| la rfl <| la rfl <| en ?_
 refine cdh rfl h (fun c1 h => ?_) (fun c1 h => ?_)
 ·refine sr <| la rfl <| en ?_
  refine WT.ret Tryz.func102 (resOk.one rfl) (fun w1 hw => ?_)
  cases h
  exact post_of_St hw
 refine WT.skip <| sr <| lf Fld_158_2 rfl rfl rfl <| ld5 Tn_156 0 rfl <| la rfl ?_
 obtain ⟨x2, hx2, h⟩ := bs h
 refine lp (p_call Fun_158 rfl (fun w1 hw => m_l_szArg_ok hw.fro N p0.R x1 hx2)) rfl <| la rfl <| en <| sq <| sr <| la rfl <| la rfl <| en ?_
 refine cdh rfl h (fun c2 h => ?_) (fun c2 h => ?_)
 ·refine sr <| la rfl <| en ?_
  refine WT.ret Tryz.func102 (resOk.one rfl) (fun w1 hw => ?_)
  cases h
  exact post_of_St hw
 refine WT.skip <| sr <| la rfl <| la rfl <| en ?_
 refine WT.ret Tryz.func102 (resOk.one rfl) (fun w1 hw => ?_)
 cases h
 exact post_of_St hw
theorem m_l_szCondS_ok {Φ : Hp} {w : World} (hΦ : In Φ w) (N : Nat) (p0 : (List TCond)) (p1 : Int) {pv0 : Value} {pG0 : List Nat} (ph0 : RSl RTCond 11 Φ pG0 pv0 p0) {r : Int} (h : m_l_szCondS N p0 p1 = some r) :
  Calls Tryz.prog 47 [pv0, .int .i64 p1].toArray w (Post (.int .i64 r) w) := by
 refine enter Tryz.func47 rfl Tryz.ntmps47 rfl (St.start0 hΦ) ?_
 generalize hb0 : (⟨w, [], Φ⟩ : Base) = w0
 unfold m_l_szCondS at h
 refine sr <| la rfl <| en <| sr <| la rfl <| la rfl <| lq (q_lenR Sl_48 rfl rfl ph0) rfl <| la rfl <| la rfl <| en <| sq <| sr <| la rfl <| la rfl <| en ?_
 refine cdh rfl h (fun c1 h => ?_) (fun c1 h => ?_)
 ·refine sr <| la rfl <| en ?_
  refine WT.ret Tryz.func47 (resOk.one rfl) (fun w1 hw => ?_)
  subst hb0
  cases h
  exact post_of_St hw
 refine WT.skip <| sq <| sr <| la rfl <| en <| blk ?_
 refine loop_in (σ := Int × Int) (fun s => [(0, pv0), (1, .int .i64 s.1), (5, .int .i64 s.2)]) (fun s => St w0 Φ [] []) (fun m s => m_l_szCondS_l1 N p0 m s.1 s.2 = some r) (IntKind.i64.wrap (p1 - (p0.length : Int)), 0) N h ⟨rfl, rfl, rfl, trivial⟩ (fun w1 hw => (hw.sel (js := []) rfl).selO (js := []) rfl) (fun s hm => none_ne hm) (fun n1 ih1 s hm => ?_)
 obtain ⟨s1, s2⟩ := s
 have h : m_l_szCondS_l1 N p0 (n1 + 1) s1 s2 = some r := hm
 show WT _ _ [(0, pv0), (1, .int .i64 s1), (5, .int .i64 s2)] (St w0 Φ [] [])
 unfold m_l_szCondS_l1 at h
 refine sq <| sr <| la rfl <| la rfl <| lq (q_lenR Sl_48 rfl rfl ph0) rfl <| la rfl <| en ?_
 refine cdh rfl h (fun c2 h => ?_) (fun c2 h => ?_)
 ·refine WT.skip <| sq <| blk <| sr <| la rfl <| la rfl ?_
  obtain ⟨x1, hx1, h⟩ := bs h
  obtain ⟨cs1, F1, -, g1, hb1, hs1, r1⟩ := ph0.el (idx_some hx1).2.2
  obtain ⟨rfl, -⟩ := r1
  refine lq (q_indexAddr Sl_48 rfl rfl ph0 hx1) rfl <| lg11 0 Tn_158 g1 rfl rfl <| la rfl ?_
  obtain ⟨x2, hx2, h⟩ := bs h
  refine lp (p_call Fun_102 rfl (fun w1 hw => m_l_szCond_ok hw.fro N x1 s1 hx2)) rfl <| la rfl <| en <| sr <| la rfl <| la rfl <| en ?_
  refine cdh rfl h (fun c3 h => ?_) (fun c3 h => ?_)
  ·refine sr <| la rfl <| en ?_
   refine WT.ret Tryz.func47 (resOk.one rfl) (fun w1 hw => ?_)
   subst hb0
   cases h
   exact post_of_St hw
  refine WT.skip <| ib <| rgn <| la rfl <| la rfl <| la rfl <| en ?_
  exact lback (ih1 (x2, IntKind.i64.wrap (s2 + 1)) h) ⟨rfl, rfl, rfl, trivial⟩ (fun w1 hw => (hw.sel (js := []) rfl).selO (js := []) rfl)
 refine xt rfl <| sr <| la rfl <| la rfl <| en ?_
 refine WT.ret Tryz.func47 (resOk.one rfl) (fun w1 hw => ?_)
 subst hb0
 cases h
 exact post_of_St hw
theorem m_l_szExpr_ok {Φ : Hp} {w : World} (hΦ : In Φ w) (N : Nat) (p0 : TExpr) (p1 : Int)   {r : Int} (h : m_l_szExpr N p0 p1 = some r) :
  Calls Tryz.prog 190 [.agg [.string p0.Op, .int .i64 p0.L.K, .string p0.L.S, .int .i64 p0.L.V.K, .int .i64 p0.L.V.N, .string p0.L.V.S, .int .i64 p0.R.K, .string p0.R.S, .int .i64 p0.R.V.K, .int .i64 p0.R.V.N, .string p0.R.V.S].toArray, .int .i64 p1].toArray w (Post (.int .i64 r) w) := by
 refine enter Tryz.func190 rfl Tryz.ntmps190 rfl (St.start0 hΦ) ?_
 unfold m_l_szExpr at h
 refine sr ?_
 refine ln (nb rfl) rfl (fun b_1 => ?_)
 refine la rfl <| en <| sr <| la rfl <| lf Fld_241_0 rfl rfl rfl <| lo T1_9 0 rfl <| lq (q_lenS Str_9 rfl rfl) rfl <| la rfl <| la rfl <| en <| sq <| sr <| la rfl <| la rfl <| en ?_
 refine cdh rfl h (fun c1 h => ?_) (fun c1 h => ?_)
 ·refine sr <| la rfl <| en ?_
  refine WT.ret Tryz.func190 (resOk.one rfl) (fun w1 hw => ?_)
  cases h
  exact post_of_St hw
 refine WT.skip <| sr <| lf Fld_241_1 rfl rfl rfl <| ld5 Tn_156 0 rfl <| la rfl ?_
 obtain ⟨x1, hx1, h⟩ := bs h
 refine lp (p_call Fun_158 rfl (fun w1 hw => m_l_szArg_ok hw.fro N p0.L (IntKind.i64.wrap (p1 - (p0.Op.size : Int))) hx1)) rfl <| la rfl <| en <| sq <| sr <| la rfl <| la rfl <| en ?_
 refine cdh rfl h (fun c2 h => ?_) (fun c2 h => ?_)
 ·refine sr <| la rfl <| en ?_
  refine WT.ret Tryz.func190 (resOk.one rfl) (fun w1 hw => ?_)
  cases h
  exact post_of_St hw
 refine WT.skip <| sr <| lf Fld_241_2 rfl rfl rfl <| ld5 Tn_156 0 rfl <| la rfl ?_
 obtain ⟨x2, hx2, h⟩ := bs h
 refine lp (p_call Fun_158 rfl (fun w1 hw => m_l_szArg_ok hw.fro N p0.R x1 hx2)) rfl <| la rfl <| en <| sq <| sr <| la rfl <| la rfl <| en ?_
 refine cdh rfl h (fun c3 h => ?_) (fun c3 h => ?_)
 ·refine sr <| la rfl <| en ?_
  refine WT.ret Tryz.func190 (resOk.one rfl) (fun w1 hw => ?_)
  cases h
  exact post_of_St hw
 refine WT.skip <| sr <| la rfl <| la rfl <| en ?_
 refine WT.ret Tryz.func190 (resOk.one rfl) (fun w1 hw => ?_)
 cases h
 exact post_of_St hw
theorem m_l_szExprS_ok {Φ : Hp} {w : World} (hΦ : In Φ w) (N : Nat) (p0 : (List TExpr)) (p1 : Int) {pv0 : Value} {pG0 : List Nat} (ph0 : RSl RTExpr 11 Φ pG0 pv0 p0) {r : Int} (h : m_l_szExprS N p0 p1 = some r) :
  Calls Tryz.prog 159 [pv0, .int .i64 p1].toArray w (Post (.int .i64 r) w) := by
 refine enter Tryz.func159 rfl Tryz.ntmps159 rfl (St.start0 hΦ) ?_
 generalize hb0 : (⟨w, [], Φ⟩ : Base) = w0
 unfold m_l_szExprS at h
 refine sr <| la rfl <| en <| sr <| la rfl <| la rfl <| lq (q_lenR Sl_160 rfl rfl ph0) rfl <| la rfl <| la rfl <| en <| sq <| sr <| la rfl <| la rfl <| en ?_
 refine cdh rfl h (fun c1 h => ?_) (fun c1 h => ?_)
 ·refine sr <| la rfl <| en ?_
  refine WT.ret Tryz.func159 (resOk.one rfl) (fun w1 hw => ?_)
  subst hb0
  cases h
  exact post_of_St hw
 refine WT.skip <| sq <| sr <| la rfl <| en <| blk ?_
 refine loop_in (σ := Int × Int) (fun s => [(0, pv0), (1, .int .i64 s.1), (5, .int .i64 s.2)]) (fun s => St w0 Φ [] []) (fun m s => m_l_szExprS_l1 N p0 m s.1 s.2 = some r) (IntKind.i64.wrap (p1 - (p0.length : Int)), 0) N h ⟨rfl, rfl, rfl, trivial⟩ (fun w1 hw => (hw.sel (js := []) rfl).selO (js := []) rfl) (fun s hm => none_ne hm) (fun n1 ih1 s hm => ?_)
 obtain ⟨s1, s2⟩ := s
 have h : m_l_szExprS_l1 N p0 (n1 + 1) s1 s2 = some r := hm
 show WT _ _ [(0, pv0), (1, .int .i64 s1), (5, .int .i64 s2)] (St w0 Φ [] [])
 unfold m_l_szExprS_l1 at h
 refine sq <| sr <| la rfl <| la rfl <| lq (q_lenR Sl_160 rfl rfl ph0) rfl <| la rfl <| en ?_
 refine cdh rfl h (fun c2 h => ?_) (fun c2 h => ?_)
 ·refine WT.skip <| sq <| blk <| sr <| la rfl <| la rfl ?_
  obtain ⟨x1, hx1, h⟩ := bs h
  obtain ⟨cs1, F1, -, g1, hb1, hs1, r1⟩ := ph0.el (idx_some hx1).2.2
  obtain ⟨rfl, -⟩ := r1
  refine lq (q_indexAddr Sl_160 rfl rfl ph0 hx1) rfl <| lg11 0 Tn_241 g1 rfl rfl <| la rfl ?_
  obtain ⟨x2, hx2, h⟩ := bs h
  refine lp (p_call Fun_190 rfl (fun w1 hw => m_l_szExpr_ok hw.fro N x1 s1 hx2)) rfl <| la rfl <| en <| sr <| la rfl <| la rfl <| en ?_
  refine cdh rfl h (fun c3 h => ?_) (fun c3 h => ?_)
  ·refine sr <| la rfl <| en ?_
   refine WT.ret Tryz.func159 (resOk.one rfl) (fun w1 hw => ?_)
   subst hb0
   cases h
   exact post_of_St hw
  refine WT.skip <| ib <| rgn <| la rfl <| la rfl <| la rfl <| en ?_
  exact lback (ih1 (x2, IntKind.i64.wrap (s2 + 1)) h) ⟨rfl, rfl, rfl, trivial⟩ (fun w1 hw => (hw.sel (js := []) rfl).selO (js := []) rfl)
 refine xt rfl <| sr <| la rfl <| la rfl <| en ?_
 refine WT.ret Tryz.func159 (resOk.one rfl) (fun w1 hw => ?_)
 subst hb0
 cases h
 exact post_of_St hw
theorem m_l_szAct_ok {Φ : Hp} {w : World} (hΦ : In Φ w) (N : Nat) (p0 : TAct) (p1 : Int) {pv0_0 : Value} {pG0_0 : List Nat} (ph0_0 : RSl RTExpr 11 Φ pG0_0 pv0_0 p0.Args) {r : Int} (h : m_l_szAct N p0 p1 = some r) :
  Calls Tryz.prog 103 [.agg [.int .i64 p0.Kind, .string p0.Name, pv0_0, .int .i64 p0.N, .string p0.Undo].toArray, .int .i64 p1].toArray w (Post (.int .i64 r) w) := by
 refine enter Tryz.func103 rfl Tryz.ntmps103 rfl (St.start0 hΦ) ?_
 unfold m_l_szAct at h
 refine sr ?_
 refine ln (nb rfl) rfl (fun b_1 => ?_)
 refine la rfl <| en <| sr <| la rfl <| lf Fld_162_1 rfl rfl rfl <| lo T1_9 0 rfl <| lq (q_lenS Str_9 rfl rfl) rfl <| la rfl <| la rfl <| en <| sq <| sr <| la rfl <| la rfl <| en ?_
 refine cdh rfl h (fun c1 h => ?_) (fun c1 h => ?_)
 ·refine sr <| la rfl <| en ?_
  refine WT.ret Tryz.func103 (resOk.one rfl) (fun w1 hw => ?_)
  cases h
  exact post_of_St hw
 refine WT.skip <| sr <| lf Fld_162_2 rfl rfl rfl <| lo T1_160 0 rfl <| la rfl ?_
 obtain ⟨x1, hx1, h⟩ := bs h
 refine lp (p_call Fun_159 rfl (fun w1 hw => m_l_szExprS_ok hw.fro N p0.Args (IntKind.i64.wrap (p1 - (p0.Name.size : Int))) ph0_0 hx1)) rfl <| la rfl <| en <| sq <| sr <| la rfl <| la rfl <| en ?_
 refine cdh rfl h (fun c2 h => ?_) (fun c2 h => ?_)
 ·refine sr <| la rfl <| en ?_
  refine WT.ret Tryz.func103 (resOk.one rfl) (fun w1 hw => ?_)
  cases h
  exact post_of_St hw
 refine WT.skip <| sr <| la rfl <| lf Fld_162_4 rfl rfl rfl <| lo T1_9 0 rfl <| lq (q_lenS Str_9 rfl rfl) rfl <| la rfl <| la rfl <| en <| sq <| sr <| la rfl <| la rfl <| en ?_
 refine cdh rfl h (fun c3 h => ?_) (fun c3 h => ?_)
 ·refine sr <| la rfl <| en ?_
  refine WT.ret Tryz.func103 (resOk.one rfl) (fun w1 hw => ?_)
  cases h
  exact post_of_St hw
 refine WT.skip <| sr <| la rfl <| la rfl <| en ?_
 refine WT.ret Tryz.func103 (resOk.one rfl) (fun w1 hw => ?_)
 cases h
 exact post_of_St hw
theorem m_l_szActS_ok {Φ : Hp} {w : World} (hΦ : In Φ w) (N : Nat) (p0 : (List TAct)) (p1 : Int) {pv0 : Value} {pG0 : List Nat} (ph0 : RSl RTAct 5 Φ pG0 pv0 p0) {r : Int} (h : m_l_szActS N p0 p1 = some r) :
  Calls Tryz.prog 48 [pv0, .int .i64 p1].toArray w (Post (.int .i64 r) w) := by
 refine enter Tryz.func48 rfl Tryz.ntmps48 rfl (St.start0 hΦ) ?_
 generalize hb0 : (⟨w, [], Φ⟩ : Base) = w0
 unfold m_l_szActS at h
 refine sr <| la rfl <| en <| sr <| la rfl <| la rfl <| lq (q_lenR Sl_49 rfl rfl ph0) rfl <| la rfl <| la rfl <| en <| sq <| sr <| la rfl <| la rfl <| en ?_
 refine cdh rfl h (fun c1 h => ?_) (fun c1 h => ?_)
 ·refine sr <| la rfl <| en ?_
  refine WT.ret Tryz.func48 (resOk.one rfl) (fun w1 hw => ?_)
  subst hb0
  cases h
  exact post_of_St hw
 refine WT.skip <| sq <| sr <| la rfl <| en <| blk ?_
 refine loop_in (σ := Int × Int) (fun s => [(0, pv0), (1, .int .i64 s.1), (5, .int .i64 s.2)]) (fun s => St w0 Φ [] []) (fun m s => m_l_szActS_l1 N p0 m s.1 s.2 = some r) (IntKind.i64.wrap (p1 - (p0.length : Int)), 0) N h ⟨rfl, rfl, rfl, trivial⟩ (fun w1 hw => (hw.sel (js := []) rfl).selO (js := []) rfl) (fun s hm => none_ne hm) (fun n1 ih1 s hm => ?_)
 obtain ⟨s1, s2⟩ := s
 have h : m_l_szActS_l1 N p0 (n1 + 1) s1 s2 = some r := hm
 show WT _ _ [(0, pv0), (1, .int .i64 s1), (5, .int .i64 s2)] (St w0 Φ [] [])
 unfold m_l_szActS_l1 at h
 refine sq <| sr <| la rfl <| la rfl <| lq (q_lenR Sl_49 rfl rfl ph0) rfl <| la rfl <| en ?_
 refine cdh rfl h (fun c2 h => ?_) (fun c2 h => ?_)
 ·refine WT.skip <| sq <| blk <| sr <| la rfl <| la rfl ?_
  obtain ⟨x1, hx1, h⟩ := bs h
  obtain ⟨cs1, F1, -, g1, hb1, hs1, r1⟩ := ph0.el (idx_some hx1).2.2
  obtain ⟨v1, G1, rfl, hq1, h1⟩ := r1
  obtain rfl := hq1.symm
  refine lq (q_indexAddr Sl_49 rfl rfl ph0 hx1) rfl <| lg5 0 Tn_162 g1 rfl rfl <| la rfl ?_
  obtain ⟨x2, hx2, h⟩ := bs h
  refine lp (p_call Fun_103 rfl (fun w1 hw => m_l_szAct_ok hw.fro N x1 s1 h1 hx2)) rfl <| la rfl <| en <| sr <| la rfl <| la rfl <| en ?_
  refine cdh rfl h (fun c3 h => ?_) (fun c3 h => ?_)
  ·refine sr <| la rfl <| en ?_
   refine WT.ret Tryz.func48 (resOk.one rfl) (fun w1 hw => ?_)
   subst hb0
   cases h
   exact post_of_St hw
  refine WT.skip <| ib <| rgn <| la rfl <| la rfl <| la rfl <| en ?_
  exact lback (ih1 (x2, IntKind.i64.wrap (s2 + 1)) h) ⟨rfl, rfl, rfl, trivial⟩ (fun w1 hw => (hw.sel (js := []) rfl).selO (js := []) rfl)
 refine xt rfl <| sr <| la rfl <| la rfl <| en ?_
 refine WT.ret Tryz.func48 (resOk.one rfl) (fun w1 hw => ?_)
 subst hb0
 cases h
 exact post_of_St hw
theorem m_l_szRule_ok {Φ : Hp} {w : World} (hΦ : In Φ w) (N : Nat) (p0 : TRule) (p1 : Int) {pv0_0 pv0_1 pv0_2 : Value} {pG0_0 pG0_1 pG0_2 : List Nat} (ph0_0 : RSl RTPat 3 Φ pG0_0 pv0_0 p0.Pats) (ph0_1 : RSl RTCond 11 Φ pG0_1 pv0_1 p0.Conds) (ph0_2 : RSl RTAct 5 Φ pG0_2 pv0_2 p0.Acts) {r : Int} (h : m_l_szRule N p0 p1 = some r) :
  Calls Tryz.prog 14 [.agg [.string p0.Name, .int .i64 p0.Sal, pv0_0, pv0_1, pv0_2].toArray, .int .i64 p1].toArray w (Post (.int .i64 r) w) := by
 refine enter Tryz.func14 rfl Tryz.ntmps14 rfl (St.start0 hΦ) ?_
 unfold m_l_szRule at h
 refine sr ?_
 refine ln (nb rfl) rfl (fun b_1 => ?_)
 refine la rfl <| en <| sr <| la rfl <| lf Fld_51_0 rfl rfl rfl <| lo T1_9 0 rfl <| lq (q_lenS Str_9 rfl rfl) rfl <| la rfl <| la rfl <| en <| sq <| sr <| la rfl <| la rfl <| en ?_
 refine cdh rfl h (fun c1 h => ?_) (fun c1 h => ?_)
 ·refine sr <| la rfl <| en ?_
  refine WT.ret Tryz.func14 (resOk.one rfl) (fun w1 hw => ?_)
  cases h
  exact post_of_St hw
 refine WT.skip <| sr <| lf Fld_51_2 rfl rfl rfl <| lo T1_47 0 rfl <| la rfl ?_
 obtain ⟨x1, hx1, h⟩ := bs h
 refine lp (p_call Fun_46 rfl (fun w1 hw => m_l_szPatS_ok hw.fro N p0.Pats (IntKind.i64.wrap (p1 - (p0.Name.size : Int))) ph0_0 hx1)) rfl <| la rfl <| en <| sq <| sr <| la rfl <| la rfl <| en ?_
 refine cdh rfl h (fun c2 h => ?_) (fun c2 h => ?_)
 ·refine sr <| la rfl <| en ?_
  refine WT.ret Tryz.func14 (resOk.one rfl) (fun w1 hw => ?_)
  cases h
  exact post_of_St hw
 refine WT.skip <| sr <| lf Fld_51_3 rfl rfl rfl <| lo T1_48 0 rfl <| la rfl ?_
 obtain ⟨x2, hx2, h⟩ := bs h
 refine lp (p_call Fun_47 rfl (fun w1 hw => m_l_szCondS_ok hw.fro N p0.Conds x1 ph0_1 hx2)) rfl <| la rfl <| en <| sq <| sr <| la rfl <| la rfl <| en ?_
 refine cdh rfl h (fun c3 h => ?_) (fun c3 h => ?_)
 ·refine sr <| la rfl <| en ?_
  refine WT.ret Tryz.func14 (resOk.one rfl) (fun w1 hw => ?_)
  cases h
  exact post_of_St hw
 refine WT.skip <| sr <| lf Fld_51_4 rfl rfl rfl <| lo T1_49 0 rfl <| la rfl ?_
 obtain ⟨x3, hx3, h⟩ := bs h
 refine lp (p_call Fun_48 rfl (fun w1 hw => m_l_szActS_ok hw.fro N p0.Acts x2 ph0_2 hx3)) rfl <| la rfl <| en <| sq <| sr <| la rfl <| la rfl <| en ?_
 refine cdh rfl h (fun c4 h => ?_) (fun c4 h => ?_)
 ·refine sr <| la rfl <| en ?_
  refine WT.ret Tryz.func14 (resOk.one rfl) (fun w1 hw => ?_)
  cases h
  exact post_of_St hw
 refine WT.skip <| sr <| la rfl <| la rfl <| en ?_
 refine WT.ret Tryz.func14 (resOk.one rfl) (fun w1 hw => ?_)
 cases h
 exact post_of_St hw
theorem m_l_szRuleS_ok {Φ : Hp} {w : World} (hΦ : In Φ w) (N : Nat) (p0 : (List TRule)) (p1 : Int) {pv0 : Value} {pG0 : List Nat} (ph0 : RSl RTRule 5 Φ pG0 pv0 p0) {r : Int} (h : m_l_szRuleS N p0 p1 = some r) :
  Calls Tryz.prog 68 [pv0, .int .i64 p1].toArray w (Post (.int .i64 r) w) := by
 refine enter Tryz.func68 rfl Tryz.ntmps68 rfl (St.start0 hΦ) ?_
 generalize hb0 : (⟨w, [], Φ⟩ : Base) = w0
 unfold m_l_szRuleS at h
 refine sr <| la rfl <| en <| sr <| la rfl <| la rfl <| lq (q_lenR Sl_66 rfl rfl ph0) rfl <| la rfl <| la rfl <| en <| sq <| sr <| la rfl <| la rfl <| en ?_
 refine cdh rfl h (fun c1 h => ?_) (fun c1 h => ?_)
 ·refine sr <| la rfl <| en ?_
  refine WT.ret Tryz.func68 (resOk.one rfl) (fun w1 hw => ?_)
  subst hb0
  cases h
  exact post_of_St hw
 refine WT.skip <| sq <| sr <| la rfl <| en <| blk ?_
 refine loop_in (σ := Int × Int) (fun s => [(0, pv0), (1, .int .i64 s.1), (5, .int .i64 s.2)]) (fun s => St w0 Φ [] []) (fun m s => m_l_szRuleS_l1 N p0 m s.1 s.2 = some r) (IntKind.i64.wrap (p1 - (p0.length : Int)), 0) N h ⟨rfl, rfl, rfl, trivial⟩ (fun w1 hw => (hw.sel (js := []) rfl).selO (js := []) rfl) (fun s hm => none_ne hm) (fun n1 ih1 s hm => ?_)
 obtain ⟨s1, s2⟩ := s
 have h : m_l_szRuleS_l1 N p0 (n1 + 1) s1 s2 = some r := hm
 show WT _ _ [(0, pv0), (1, .int .i64 s1), (5, .int .i64 s2)] (St w0 Φ [] [])
 unfold m_l_szRuleS_l1 at h
 refine sq <| sr <| la rfl <| la rfl <| lq (q_lenR Sl_66 rfl rfl ph0) rfl <| la rfl <| en ?_
 refine cdh rfl h (fun c2 h => ?_) (fun c2 h => ?_)
 ·refine WT.skip <| sq <| blk <| sr <| la rfl <| la rfl ?_
  obtain ⟨x1, hx1, h⟩ := bs h
  obtain ⟨cs1, F1, -, g1, hb1, hs1, r1⟩ := ph0.el (idx_some hx1).2.2
  obtain ⟨v1, G1, v2, G2, v3, G3, rfl, rfl, h1, h2, h3⟩ := r1
  refine lq (q_indexAddr Sl_66 rfl rfl ph0 hx1) rfl <| lg5 0 Tn_51 g1 rfl rfl <| la rfl ?_
  obtain ⟨x2, hx2, h⟩ := bs h
  refine lp (p_call Fun_14 rfl (fun w1 hw => m_l_szRule_ok hw.fro N x1 s1 h1 h2 h3 hx2)) rfl <| la rfl <| en <| sr <| la rfl <| la rfl <| en ?_
  refine cdh rfl h (fun c3 h => ?_) (fun c3 h => ?_)
  ·refine sr <| la rfl <| en ?_
   refine WT.ret Tryz.func68 (resOk.one rfl) (fun w1 hw => ?_)
   subst hb0
   cases h
   exact post_of_St hw
  refine WT.skip <| ib <| rgn <| la rfl <| la rfl <| la rfl <| en ?_
  exact lback (ih1 (x2, IntKind.i64.wrap (s2 + 1)) h) ⟨rfl, rfl, rfl, trivial⟩ (fun w1 hw => (hw.sel (js := []) rfl).selO (js := []) rfl)
 refine xt rfl <| sr <| la rfl <| la rfl <| en ?_
 refine WT.ret Tryz.func68 (resOk.one rfl) (fun w1 hw => ?_)
 subst hb0
 cases h
 exact post_of_St hw
theorem m_l_szDef_ok {Φ : Hp} {w : World} (hΦ : In Φ w) (N : Nat) (p0 : TDef) (p1 : Int) {pv0_0 : Value} {pG0_0 : List Nat} (ph0_0 : RSl RTRule 5 Φ pG0_0 pv0_0 p0.Rules) {r : Int} (h : m_l_szDef N p0 p1 = some r) :
  Calls Tryz.prog 26 [.agg [.string p0.Name, pv0_0].toArray, .int .i64 p1].toArray w (Post (.int .i64 r) w) := by
 refine enter Tryz.func26 rfl Tryz.ntmps26 rfl (St.start0 hΦ) ?_
 unfold m_l_szDef at h
 refine sr ?_
 refine ln (nb rfl) rfl (fun b_1 => ?_)
 refine la rfl <| en <| sr <| la rfl <| lf Fld_68_0 rfl rfl rfl <| lo T1_9 0 rfl <| lq (q_lenS Str_9 rfl rfl) rfl <| la rfl <| la rfl <| en <| sq <| sr <| la rfl <| la rfl <| en ?_
 refine cdh rfl h (fun c1 h => ?_) (fun c1 h => ?_)
 ·refine sr <| la rfl <| en ?_
  refine WT.ret Tryz.func26 (resOk.one rfl) (fun w1 hw => ?_)
  cases h
  exact post_of_St hw
 refine WT.skip <| sr <| lf Fld_68_1 rfl rfl rfl <| lo T1_66 0 rfl <| la rfl ?_
 obtain ⟨x1, hx1, h⟩ := bs h
 refine lp (p_call Fun_68 rfl (fun w1 hw => m_l_szRuleS_ok hw.fro N p0.Rules (IntKind.i64.wrap (p1 - (p0.Name.size : Int))) ph0_0 hx1)) rfl <| la rfl <| en <| sq <| sr <| la rfl <| la rfl <| en ?_
 refine cdh rfl h (fun c2 h => ?_) (fun c2 h => ?_)
 ·refine sr <| la rfl <| en ?_
  refine WT.ret Tryz.func26 (resOk.one rfl) (fun w1 hw => ?_)
  cases h
  exact post_of_St hw
 refine WT.skip <| sr <| la rfl <| la rfl <| en ?_
 refine WT.ret Tryz.func26 (resOk.one rfl) (fun w1 hw => ?_)
 cases h
 exact post_of_St hw
theorem m_l_toArg_ok {Φ : Hp} {w : World} (hΦ : In Φ w) (N : Nat) (p0 : TArg)   {r : TArg} (h : m_l_toArg N p0 = some r) :
  Calls Tryz.prog 165 [.agg [.int .i64 p0.K, .string p0.S, .int .i64 p0.V.K, .int .i64 p0.V.N, .string p0.V.S].toArray].toArray w (Post (.agg [.int .i64 r.K, .string r.S, .int .i64 r.V.K, .int .i64 r.V.N, .string r.V.S].toArray) w) := by
 refine enter Tryz.func165 rfl Tryz.ntmps165 rfl (St.start0 hΦ) ?_
 unfold m_l_toArg at h
 refine sr ?_
 refine ln (nb rfl) rfl (fun b_1 => ?_)
 refine ln (nz Zr_137) rfl (fun b_2 => ?_)
 refine en <| sr ?_
 refine ln (nz Zr_137) rfl (fun b_3 => ?_)
 refine en <| sr <| lf Fld_156_0 rfl rfl rfl <| lo T1_3 2 rfl <| lf Fld_137_0 rfl rfl rfl <| so1 0 Sz_3 rfl rfl ?_
 refine en <| sr <| lf Fld_156_1 rfl rfl rfl <| lo T1_9 2 rfl <| lf Fld_137_1 rfl rfl rfl <| so1 0 Sz_9 rfl rfl ?_
 refine en <| sr <| lf Fld_156_2 rfl rfl rfl <| ld3 Tn_154 2 rfl ?_
 obtain ⟨x1, hx1, h⟩ := bs h
 refine lp (p_call Fun_194 rfl (fun w1 hw => m_l_toVal_ok hw.fro N p0.V hx1)) rfl <| lf Fld_137_2 rfl rfl rfl <| soN 0 Sz_85 rfl ⟨rfl, rfl, rfl, trivial⟩ rfl ?_
 refine en <| sr <| ld5 Tn_137 0 rfl <| soN 1 Sz_137 rfl ⟨rfl, rfl, rfl, rfl, rfl, trivial⟩ rfl ?_
 refine en ?_
 refine WT.ret Tryz.func165 (resOk.one (rv_cell Tn_137 rfl (fun w1 hw => hw.rgO (i := 1) rfl 0 5 [.int .i64 p0.K, .string p0.S, .int .i64 x1.K, .int .i64 x1.N, .string x1.S] rfl) rfl)) (fun w1 hw => ?_)
 cases h
 exact post_of_St hw
theorem m_l_toArgS_ok {Φ : Hp} {w : World} (hΦ : In Φ w) (N : Nat) (p0 : (List TArg)) {pv0 : Value} {pG0 : List Nat} (ph0 : RSl RTArg 5 Φ pG0 pv0 p0) {r : (List TArg)} (h : m_l_toArgS N p0 = some r) :
  Calls Tryz.prog 164 [pv0].toArray w (PostG Φ w [] (fun Φ' Fs v => ∃ (sr_0_0 : Value), v = sr_0_0 ∧ Fs = [ob sr_0_0] ∧ OSl RTArg 137 5 Φ' [] sr_0_0 r)) := by
 refine enter Tryz.func164 rfl Tryz.ntmps164 rfl (St.start0 hΦ) ?_
 have pa0 := Old.mk hΦ ph0.kn (Dj.empty _)
 revert pa0
 generalize hb0 : (⟨w, [], Φ⟩ : Base) = w0
 intro pa0
 unfold m_l_toArgS at h
 refine sr <| la rfl <| en <| sr <| la rfl <| lq (q_lenR Sl_150 rfl rfl ph0) rfl ?_
 obtain ⟨x1, hx1, h⟩ := bs h
 refine le' (e_make (R := RTArg) Sl_169 Zr_137 By_137 rfl rfl rfl (fun _ => ⟨rfl, rfl⟩) rfl rfl (Int.le_refl _) hx1 (mk_le hx1)) rfl (fun v1 Φ_1 D1 q1 => ?_)
 obtain ⟨fr1, h1⟩ := q1
 replace ph0 := ph0.frame RTArg.lasts fr1 (Dj.empty _)
 refine la rfl <| en <| sq <| sr <| la rfl <| en <| blk ?_
 refine loop_in (σ := Hp × (List TArg) × Int) (fun s => [(0, pv0), (3, v1), (4, .int .i64 s.2.2)]) (fun s => St w0 s.1 [] [ob v1]) (fun m s => m_l_toArgS_l1 N p0 m s.2.1 s.2.2 = some r ∧ (OSl RTArg 137 5 s.1 [] v1 s.2.1) ∧ (RSl RTArg 5 s.1 pG0 pv0 p0)) (Φ_1, x1, 0) N ⟨h, h1, ph0⟩ ⟨rfl, rfl, rfl, trivial⟩ (fun w1 hw => (hw.sel (js := [0]) rfl).selO (js := []) rfl) (fun s hm => none_ne hm.1) (fun n1 ih1 s hm => ?_)
 obtain ⟨Φ_2, s1, s2⟩ := s
 obtain ⟨h, k1, ph0⟩ := hm
 dsimp only at h k1 ph0 ⊢
 unfold m_l_toArgS_l1 at h
 refine sq <| sr <| la rfl <| la rfl <| lq (q_lenR Sl_150 rfl rfl ph0) rfl <| la rfl <| en ?_
 refine cdh rfl h (fun c1 h => ?_) (fun c1 h => ?_)
 ·refine WT.skip <| sq <| blk <| rgn <| la rfl <| la rfl <| la rfl <| la rfl ?_
  obtain ⟨x2, hx2, h⟩ := bs h
  obtain ⟨cs1, F1, -, g1, hb1, hs1, r1⟩ := ph0.el (idx_some hx2).2.2
  obtain ⟨rfl, -⟩ := r1
  refine lq (q_indexAddr Sl_150 rfl rfl ph0 hx2) rfl <| lg5 0 Tn_156 g1 rfl rfl ?_
  obtain ⟨x3, hx3, h⟩ := bs h
  refine lp (p_call Fun_165 rfl (fun w1 hw => m_l_toArg_ok hw.fro N x2 hx3)) rfl ?_
  obtain ⟨x4, hx4, h⟩ := bs h
  obtain ⟨cs2, F2, -, g2, hb2, hs2, r2⟩ := k1.elS (idx_some hx4).2.2
  obtain ⟨rfl, -⟩ := r2
  refine lq (q_indexAddr Sl_169 rfl rfl k1.rsl hx4) rfl ?_
  refine lu (u_setF (js := [0]) (Rr := []) (vs := [.int .i64 x3.K, .string x3.S, .int .i64 x3.V.K, .int .i64 x3.V.N, .string x3.V.S]) (x' := x3) RTArg.lasts RTArg.flat Sz_137 rfl rfl rfl rfl ⟨rfl, rfl, rfl, rfl, rfl, trivial⟩ rfl k1 (idx_lt hx4) ⟨rfl, rfl⟩) rfl (fun Φ_3 D2 q2 => ?_)
  obtain ⟨⟨ap1, fr2⟩, h2⟩ := q2
  replace ph0 := ph0.frame RTArg.lasts fr2 (ap1.o pa0)
  refine en <| ib <| rgn <| la rfl <| la rfl <| la rfl <| en ?_
  exact lback (ih1 (Φ_3, (s1.set s2.toNat x3), IntKind.i64.wrap (s2 + 1)) ⟨h, h2, ph0⟩) ⟨rfl, rfl, rfl, trivial⟩ (fun w1 hw => (hw.sel (js := [0]) rfl).selO (js := []) rfl)
 refine xt rfl <| sr <| la rfl <| la rfl <| en ?_
 refine WT.ret Tryz.func164 (resOk.one rfl) (fun w1 hw => ?_)
 subst hb0
 cases h
 refine postG_of_St (js := [0]) hw rfl ⟨v1, rfl, rfl, k1⟩
theorem m_l_toPat_ok {Φ : Hp} {w : World} (hΦ : In Φ w) (N : Nat) (p0 : TPat) {pv0_0 : Value} {pG0_0 : List Nat} (ph0_0 : RSl RTArg 5 Φ pG0_0 pv0_0 p0.Args) {r : TPat} (h : m_l_toPat N p0 = some r) :
  Calls Tryz.prog 106 [.agg [.string p0.Kind, pv0_0, .bool p0.Not].toArray].toArray w (PostG Φ w [] (fun Φ' Fs v => ∃ (sr_0_0 : Value), v = .agg [.string r.Kind, sr_0_0, .bool r.Not].toArray ∧ Fs = [ob sr_0_0] ∧ OSl RTArg 137 5 Φ' [] sr_0_0 r.Args)) := by
 refine enter Tryz.func106 rfl Tryz.ntmps106 rfl (St.start0 hΦ) ?_
 have pa0_0 := Old.mk hΦ ph0_0.kn (Dj.empty _)
 unfold m_l_toPat at h
 refine sr ?_
 refine ln (nb rfl) rfl (fun b_1 => ?_)
 refine ln (nz Zr_171) rfl (fun b_2 => ?_)
 refine en <| sr ?_
 refine ln (nz Zr_171) rfl (fun b_3 => ?_)
 refine en <| sr <| lf Fld_152_0 rfl rfl rfl <| lo T1_9 2 rfl <| lf Fld_171_0 rfl rfl rfl <| so1 0 Sz_9 rfl rfl ?_
 refine en <| sr <| lf Fld_152_1 rfl rfl rfl <| lo T1_150 2 rfl ?_
 obtain ⟨x1, hx1, h⟩ := bs h
 refine lc (k_call (js := []) (R := []) Fun_164 rfl rfl (fun w1 hw ap hl => m_l_toArgS_ok hw.fro N p0.Args ph0_0  hx1)) rfl (fun v1 Φ_1 F1 q1 => ?_)
 obtain ⟨ap1, fr1, v2, rfl, rfl, h1⟩ := q1
 replace ph0_0 := ph0_0.frame RTArg.lasts fr1 (ap1.o pa0_0)
 refine lf Fld_171_1 rfl rfl rfl <| so1 0 Sz_169 rfl h1.one ?_
 refine en <| sr <| lf Fld_152_2 rfl rfl rfl <| lo T1_4 2 rfl <| lf Fld_171_2 rfl rfl rfl <| so1 0 Sz_4 rfl rfl ?_
 refine en <| sr <| ld3 Tn_171 0 rfl <| soN 1 Sz_171 rfl ⟨rfl, h1.one, rfl, trivial⟩ rfl ?_
 refine en ?_
 refine WT.ret Tryz.func106 (resOk.one (rv_cell Tn_171 rfl (fun w1 hw => hw.rgO (i := 1) rfl 0 3 [.string p0.Kind, v1, .bool p0.Not] rfl) rfl)) (fun w1 hw => ?_)
 cases h
 refine postG_of_St (js := [0]) hw rfl ⟨v1, rfl, rfl, h1⟩
theorem m_l_toPatS_ok {Φ : Hp} {w : World} (hΦ : In Φ w) (N : Nat) (p0 : (List TPat)) {pv0 : Value} {pG0 : List Nat} (ph0 : RSl RTPat 3 Φ pG0 pv0 p0) {r : (List TPat)} (h : m_l_toPatS N p0 = some r) :
  Calls Tryz.prog 51 [pv0].toArray w (PostG Φ w [] (fun Φ' Fs v => ∃ (sr_0_0 : Value) (Dr_0_0 : List Nat), v = sr_0_0 ∧ Fs = [ob sr_0_0, Dr_0_0] ∧ OSl OTPat 171 3 Φ' Dr_0_0 sr_0_0 r)) := by
 refine enter Tryz.func51 rfl Tryz.ntmps51 rfl (St.start0 hΦ) ?_
 have pa0 := Old.mk hΦ ph0.kn (Dj.empty _)
 revert pa0
 generalize hb0 : (⟨w, [], Φ⟩ : Base) = w0
 intro pa0
 unfold m_l_toPatS at h
 refine sr <| la rfl <| en <| sr <| la rfl <| lq (q_lenR Sl_47 rfl rfl ph0) rfl ?_
 obtain ⟨x1, hx1, h⟩ := bs h
 refine le' (e_make (R := OTPat) Sl_36 Zr_171 By_171 rfl rfl rfl (fun _ => ⟨.slice none 0 0, rfl, rfl, OSl.nil _ _ _ _⟩) rfl rfl (Int.le_refl _) hx1 (mk_le hx1)) rfl (fun v1 Φ_1 D1 q1 => ?_)
 obtain ⟨fr1, h1⟩ := q1
 replace ph0 := ph0.frame RTPat.lasts fr1 (Dj.empty _)
 refine WL.conv (S' := St w0 Φ_1 [] ([] :: [ob v1])) (fun w1 hw => hw.addNil) <| la rfl <| en <| sq <| sr <| la rfl <| en <| blk ?_
 refine loop_in (σ := Hp × (List TPat) × List Nat × Int) (fun s => [(0, pv0), (3, v1), (4, .int .i64 s.2.2.2)]) (fun s => St w0 s.1 [] [s.2.2.1, ob v1]) (fun m s => m_l_toPatS_l1 N p0 m s.2.1 s.2.2.2 = some r ∧ (OSl OTPat 171 3 s.1 s.2.2.1 v1 s.2.1) ∧ (RSl RTPat 3 s.1 pG0 pv0 p0)) (Φ_1, x1, [], 0) N ⟨h, h1, ph0⟩ ⟨rfl, rfl, rfl, trivial⟩ (fun w1 hw => (hw.sel (js := [0, 0]) rfl).selO (js := []) rfl) (fun s hm => none_ne hm.1) (fun n1 ih1 s hm => ?_)
 obtain ⟨Φ_2, s1, D2, s2⟩ := s
 obtain ⟨h, k1, ph0⟩ := hm
 dsimp only at h k1 ph0 ⊢
 unfold m_l_toPatS_l1 at h
 refine sq <| sr <| la rfl <| la rfl <| lq (q_lenR Sl_47 rfl rfl ph0) rfl <| la rfl <| en ?_
 refine cdh rfl h (fun c1 h => ?_) (fun c1 h => ?_)
 ·refine WT.skip <| sq <| blk <| rgn <| la rfl <| la rfl <| la rfl <| la rfl ?_
  obtain ⟨x2, hx2, h⟩ := bs h
  obtain ⟨cs1, F1, -, g1, hb1, hs1, r1⟩ := ph0.el (idx_some hx2).2.2
  obtain ⟨v2, G1, rfl, hq1, h2⟩ := r1
  obtain rfl := hq1.symm
  refine lq (q_indexAddr Sl_47 rfl rfl ph0 hx2) rfl <| lg3 0 Tn_152 g1 rfl rfl ?_
  obtain ⟨x3, hx3, h⟩ := bs h
  refine lc (k_call (js := []) (R := [D2, ob v1]) Fun_106 rfl rfl (fun w1 hw ap hl => m_l_toPat_ok hw.fro N x2 h2  hx3)) rfl (fun v3 Φ_3 F2 q2 => ?_)
  obtain ⟨ap1, fr2, v4, rfl, rfl, h3⟩ := q2
  replace ph0 := ph0.frame RTPat.lasts fr2 (ap1.o pa0)
  replace k1 := k1.frame OTPat.lasts fr2 (ap1.r (i := 1) rfl) (ap1.r (i := 0) rfl)
  obtain ⟨x4, hx4, h⟩ := bs h
  obtain ⟨cs2, F3, -, g2, hb2, hs2, r2⟩ := k1.elS (idx_some hx4).2.2
  obtain ⟨v5, rfl, rfl, h4⟩ := r2
  have h5 := h4.rsl
  refine lq (q_indexAddr Sl_36 rfl rfl k1.rsl hx4) rfl ?_
  have r3 : OTPat Φ_3 ((ob v4 ++ [])) [.string x3.Kind, v4, .bool x3.Not] x3 := ⟨v4, rfl, rfl, h3⟩
  refine lu (u_setO (js := [2]) (Rr := [ob v4, D2]) (vs := [.string x3.Kind, v4, .bool x3.Not]) (x' := x3) OTPat.lasts Sz_171 rfl rfl rfl rfl ⟨rfl, h3.one, rfl, trivial⟩ rfl k1 (idx_lt hx4) r3 (OTPat.knows _ _ _ _ r3) (fun ap => (ap.r (i := 1) rfl)) (fun ap => by simpa [ob_nil] using (ap.r (i := 0) rfl))) rfl (fun Φ_4 D3 q3 => ?_)
  obtain ⟨⟨ap2, fr3⟩, sp1, h6⟩ := q3
  replace ph0 := ph0.frame RTPat.lasts fr3 (ap2.o pa0)
  refine WL.conv (S' := St w0 Φ_4 [] [D3, ob v1]) (fun w1 hw => hw.merge (js := [2, 1]) rfl (by simpa [List.append_assoc, ob_nil] using sp1)) <| en <| ib <| rgn <| la rfl <| la rfl <| la rfl <| en ?_
  exact lback (ih1 (Φ_4, (s1.set s2.toNat x3), D3, IntKind.i64.wrap (s2 + 1)) ⟨h, h6, ph0⟩) ⟨rfl, rfl, rfl, trivial⟩ (fun w1 hw => (hw.sel (js := [0, 0]) rfl).selO (js := []) rfl)
 refine xt rfl <| sr <| la rfl <| la rfl <| en ?_
 refine WT.ret Tryz.func51 (resOk.one rfl) (fun w1 hw => ?_)
 subst hb0
 cases h
 refine postG_of_St (js := [1, 0]) hw rfl ⟨v1, D2, rfl, rfl, k1⟩
theorem m_l_toCond_ok {Φ : Hp} {w : World} (hΦ : In Φ w) (N : Nat) (p0 : TCond)   {r : TCond} (h : m_l_toCond N p0 = some r) :
  Calls Tryz.prog 107 [.agg [.int .i64 p0.Op, .int .i64 p0.L.K, .string p0.L.S, .int .i64 p0.L.V.K, .int .i64 p0.L.V.N, .string p0.L.V.S, .int .i64 p0.R.K, .string p0.R.S, .int .i64 p0.R.V.K, .int .i64 p0.R.V.N, .string p0.R.V.S].toArray].toArray w (Post (.agg [.int .i64 r.Op, .int .i64 r.L.K, .string r.L.S, .int .i64 r.L.V.K, .int .i64 r.L.V.N, .string r.L.V.S, .int .i64 r.R.K, .string r.R.S, .int .i64 r.R.V.K, .int .i64 r.R.V.N, .string r.R.V.S].toArray) w) := by
 refine enter Tryz.func107 rfl Tryz.ntmps107 rfl (St.start0 hΦ) ?_
 unfold m_l_toCond at h
 refine sr ?_
 refine ln (nb rfl) rfl (fun b_1 => ?_)
 refine ln (nz Zr_139) rfl (fun b_2 => ?_)
 refine en <| sr ?_
 refine ln (nz Zr_139) rfl (fun b_3 => ?_)
 refine en <| sr <| lf Fld_158_0 rfl rfl rfl <| lo T1_3 2 rfl <| lf Fld_139_0 rfl rfl rfl <| so1 0 Sz_3 rfl rfl ?_
 refine en <| sr <| lf Fld_158_1 rfl rfl rfl <| ld5 Tn_156 2 rfl ?_
 obtain ⟨x1, hx1, h⟩ := bs h
 refine lp (p_call Fun_165 rfl (fun w1 hw => m_l_toArg_ok hw.fro N p0.L hx1)) rfl <| lf Fld_139_1 rfl rfl rfl <| soN 0 Sz_137 rfl ⟨rfl, rfl, rfl, rfl, rfl, trivial⟩ rfl ?_
 refine en <| sr <| lf Fld_158_2 rfl rfl rfl <| ld5 Tn_156 2 rfl ?_
 obtain ⟨x2, hx2, h⟩ := bs h
 refine lp (p_call Fun_165 rfl (fun w1 hw => m_l_toArg_ok hw.fro N p0.R hx2)) rfl <| lf Fld_139_2 rfl rfl rfl <| soN 0 Sz_137 rfl ⟨rfl, rfl, rfl, rfl, rfl, trivial⟩ rfl ?_
 refine en <| sr <| ld11 Tn_139 0 rfl <| soN 1 Sz_139 rfl ⟨rfl, rfl, rfl, rfl, rfl, rfl, rfl, rfl, rfl, rfl, rfl, trivial⟩ rfl ?_
 refine en ?_
 refine WT.ret Tryz.func107 (resOk.one (rv_cell Tn_139 rfl (fun w1 hw => hw.rgO (i := 1) rfl 0 11 [.int .i64 p0.Op, .int .i64 x1.K, .string x1.S, .int .i64 x1.V.K, .int .i64 x1.V.N, .string x1.V.S, .int .i64 x2.K, .string x2.S, .int .i64 x2.V.K, .int .i64 x2.V.N, .string x2.V.S] rfl) rfl)) (fun w1 hw => ?_)
 cases h
 exact post_of_St hw
theorem m_l_toCondS_ok {Φ : Hp} {w : World} (hΦ : In Φ w) (N : Nat) (p0 : (List TCond)) {pv0 : Value} {pG0 : List Nat} (ph0 : RSl RTCond 11 Φ pG0 pv0 p0) {r : (List TCond)} (h : m_l_toCondS N p0 = some r) :
  Calls Tryz.prog 52 [pv0].toArray w (PostG Φ w [] (fun Φ' Fs v => ∃ (sr_0_0 : Value), v = sr_0_0 ∧ Fs = [ob sr_0_0] ∧ OSl RTCond 139 11 Φ' [] sr_0_0 r)) := by
 refine enter Tryz.func52 rfl Tryz.ntmps52 rfl (St.start0 hΦ) ?_
 have pa0 := Old.mk hΦ ph0.kn (Dj.empty _)
 revert pa0
 generalize hb0 : (⟨w, [], Φ⟩ : Base) = w0
 intro pa0
 unfold m_l_toCondS at h
 refine sr <| la rfl <| en <| sr <| la rfl <| lq (q_lenR Sl_48 rfl rfl ph0) rfl ?_
 obtain ⟨x1, hx1, h⟩ := bs h
 refine le' (e_make (R := RTCond) Sl_37 Zr_139 By_139 rfl rfl rfl (fun _ => ⟨rfl, rfl⟩) rfl rfl (Int.le_refl _) hx1 (mk_le hx1)) rfl (fun v1 Φ_1 D1 q1 => ?_)
 obtain ⟨fr1, h1⟩ := q1
 replace ph0 := ph0.frame RTCond.lasts fr1 (Dj.empty _)
 refine la rfl <| en <| sq <| sr <| la rfl <| en <| blk ?_
 refine loop_in (σ := Hp × (List TCond) × Int) (fun s => [(0, pv0), (3, v1), (4, .int .i64 s.2.2)]) (fun s => St w0 s.1 [] [ob v1]) (fun m s => m_l_toCondS_l1 N p0 m s.2.1 s.2.2 = some r ∧ (OSl RTCond 139 11 s.1 [] v1 s.2.1) ∧ (RSl RTCond 11 s.1 pG0 pv0 p0)) (Φ_1, x1, 0) N ⟨h, h1, ph0⟩ ⟨rfl, rfl, rfl, trivial⟩ (fun w1 hw => (hw.sel (js := [0]) rfl).selO (js := []) rfl) (fun s hm => none_ne hm.1) (fun n1 ih1 s hm => ?_)
 obtain ⟨Φ_2, s1, s2⟩ := s
 obtain ⟨h, k1, ph0⟩ := hm
 dsimp only at h k1 ph0 ⊢
 unfold m_l_toCondS_l1 at h
 refine sq <| sr <| la rfl <| la rfl <| lq (q_lenR Sl_48 rfl rfl ph0) rfl <| la rfl <| en ?_
 refine cdh rfl h (fun c1 h => ?_) (fun c1 h => ?_)
 ·refine WT.skip <| sq <| blk <| rgn <| la rfl <| la rfl <| la rfl <| la rfl ?_
  obtain ⟨x2, hx2, h⟩ := bs h
  obtain ⟨cs1, F1, -, g1, hb1, hs1, r1⟩ := ph0.el (idx_some hx2).2.2
  obtain ⟨rfl, -⟩ := r1
  refine lq (q_indexAddr Sl_48 rfl rfl ph0 hx2) rfl <| lg11 0 Tn_158 g1 rfl rfl ?_
  obtain ⟨x3, hx3, h⟩ := bs h
  refine lp (p_call Fun_107 rfl (fun w1 hw => m_l_toCond_ok hw.fro N x2 hx3)) rfl ?_
  obtain ⟨x4, hx4, h⟩ := bs h
  obtain ⟨cs2, F2, -, g2, hb2, hs2, r2⟩ := k1.elS (idx_some hx4).2.2
  obtain ⟨rfl, -⟩ := r2
  refine lq (q_indexAddr Sl_37 rfl rfl k1.rsl hx4) rfl ?_
  refine lu (u_setF (js := [0]) (Rr := []) (vs := [.int .i64 x3.Op, .int .i64 x3.L.K, .string x3.L.S, .int .i64 x3.L.V.K, .int .i64 x3.L.V.N, .string x3.L.V.S, .int .i64 x3.R.K, .string x3.R.S, .int .i64 x3.R.V.K, .int .i64 x3.R.V.N, .string x3.R.V.S]) (x' := x3) RTCond.lasts RTCond.flat Sz_139 rfl rfl rfl rfl ⟨rfl, rfl, rfl, rfl, rfl, rfl, rfl, rfl, rfl, rfl, rfl, trivial⟩ rfl k1 (idx_lt hx4) ⟨rfl, rfl⟩) rfl (fun Φ_3 D2 q2 => ?_)
  obtain ⟨⟨ap1, fr2⟩, h2⟩ := q2
  replace ph0 := ph0.frame RTCond.lasts fr2 (ap1.o pa0)
  refine en <| ib <| rgn <| la rfl <| la rfl <| la rfl <| en ?_
  exact lback (ih1 (Φ_3, (s1.set s2.toNat x3), IntKind.i64.wrap (s2 + 1)) ⟨h, h2, ph0⟩) ⟨rfl, rfl, rfl, trivial⟩ (fun w1 hw => (hw.sel (js := [0]) rfl).selO (js := []) rfl)
 refine xt rfl <| sr <| la rfl <| la rfl <| en ?_
 refine WT.ret Tryz.func52 (resOk.one rfl) (fun w1 hw => ?_)
 subst hb0
 cases h
 refine postG_of_St (js := [0]) hw rfl ⟨v1, rfl, rfl, k1⟩
theorem m_l_toExpr_ok {Φ : Hp} {w : World} (hΦ : In Φ w) (N : Nat) (p0 : TExpr)   {r : TExpr} (h : m_l_toExpr N p0 = some r) :
  Calls Tryz.prog 195 [.agg [.string p0.Op, .int .i64 p0.L.K, .string p0.L.S, .int .i64 p0.L.V.K, .int .i64 p0.L.V.N, .string p0.L.V.S, .int .i64 p0.R.K, .string p0.R.S, .int .i64 p0.R.V.K, .int .i64 p0.R.V.N, .string p0.R.V.S].toArray].toArray w (Post (.agg [.string r.Op, .int .i64 r.L.K, .string r.L.S, .int .i64 r.L.V.K, .int .i64 r.L.V.N, .string r.L.V.S, .int .i64 r.R.K, .string r.R.S, .int .i64 r.R.V.K, .int .i64 r.R.V.N, .string r.R.V.S].toArray) w) := by
 refine enter Tryz.func195 rfl Tryz.ntmps195 rfl (St.start0 hΦ) ?_
 unfold m_l_toExpr at h
 refine sr ?_
 refine ln (nb rfl) rfl (fun b_1 => ?_)
 refine ln (nz Zr_191) rfl (fun b_2 => ?_)
 refine en <| sr ?_
 refine ln (nz Zr_191) rfl (fun b_3 => ?_)
 refine en <| sr <| lf Fld_241_0 rfl rfl rfl <| lo T1_9 2 rfl <| lf Fld_191_0 rfl rfl rfl <| so1 0 Sz_9 rfl rfl ?_
 refine en <| sr <| lf Fld_241_1 rfl rfl rfl <| ld5 Tn_156 2 rfl ?_
 obtain ⟨x1, hx1, h⟩ := bs h
 refine lp (p_call Fun_165 rfl (fun w1 hw => m_l_toArg_ok hw.fro N p0.L hx1)) rfl <| lf Fld_191_1 rfl rfl rfl <| soN 0 Sz_137 rfl ⟨rfl, rfl, rfl, rfl, rfl, trivial⟩ rfl ?_
 refine en <| sr <| lf Fld_241_2 rfl rfl rfl <| ld5 Tn_156 2 rfl ?_
 obtain ⟨x2, hx2, h⟩ := bs h
 refine lp (p_call Fun_165 rfl (fun w1 hw => m_l_toArg_ok hw.fro N p0.R hx2)) rfl <| lf Fld_191_2 rfl rfl rfl <| soN 0 Sz_137 rfl ⟨rfl, rfl, rfl, rfl, rfl, trivial⟩ rfl ?_
 refine en <| sr <| ld11 Tn_191 0 rfl <| soN 1 Sz_191 rfl ⟨rfl, rfl, rfl, rfl, rfl, rfl, rfl, rfl, rfl, rfl, rfl, trivial⟩ rfl ?_
 refine en ?_
 refine WT.ret Tryz.func195 (resOk.one (rv_cell Tn_191 rfl (fun w1 hw => hw.rgO (i := 1) rfl 0 11 [.string p0.Op, .int .i64 x1.K, .string x1.S, .int .i64 x1.V.K, .int .i64 x1.V.N, .string x1.V.S, .int .i64 x2.K, .string x2.S, .int .i64 x2.V.K, .int .i64 x2.V.N, .string x2.V.S] rfl) rfl)) (fun w1 hw => ?_)
 cases h
 exact post_of_St hw
theorem m_l_toExprS_ok {Φ : Hp} {w : World} (hΦ : In Φ w) (N : Nat) (p0 : (List TExpr)) {pv0 : Value} {pG0 : List Nat} (ph0 : RSl RTExpr 11 Φ pG0 pv0 p0) {r : (List TExpr)} (h : m_l_toExprS N p0 = some r) :
  Calls Tryz.prog 166 [pv0].toArray w (PostG Φ w [] (fun Φ' Fs v => ∃ (sr_0_0 : Value), v = sr_0_0 ∧ Fs = [ob sr_0_0] ∧ OSl RTExpr 191 11 Φ' [] sr_0_0 r)) := by
 refine enter Tryz.func166 rfl Tryz.ntmps166 rfl (St.start0 hΦ) ?_
 have pa0 := Old.mk hΦ ph0.kn (Dj.empty _)
 revert pa0
 generalize hb0 : (⟨w, [], Φ⟩ : Base) = w0
 intro pa0
 unfold m_l_toExprS at h
 refine sr <| la rfl <| en <| sr <| la rfl <| lq (q_lenR Sl_160 rfl rfl ph0) rfl ?_
 obtain ⟨x1, hx1, h⟩ := bs h
 refine le' (e_make (R := RTExpr) Sl_141 Zr_191 By_191 rfl rfl rfl (fun _ => ⟨rfl, rfl⟩) rfl rfl (Int.le_refl _) hx1 (mk_le hx1)) rfl (fun v1 Φ_1 D1 q1 => ?_)
 obtain ⟨fr1, h1⟩ := q1
 replace ph0 := ph0.frame RTExpr.lasts fr1 (Dj.empty _)
 refine la rfl <| en <| sq <| sr <| la rfl <| en <| blk ?_
 refine loop_in (σ := Hp × (List TExpr) × Int) (fun s => [(0, pv0), (3, v1), (4, .int .i64 s.2.2)]) (fun s => St w0 s.1 [] [ob v1]) (fun m s => m_l_toExprS_l1 N p0 m s.2.1 s.2.2 = some r ∧ (OSl RTExpr 191 11 s.1 [] v1 s.2.1) ∧ (RSl RTExpr 11 s.1 pG0 pv0 p0)) (Φ_1, x1, 0) N ⟨h, h1, ph0⟩ ⟨rfl, rfl, rfl, trivial⟩ (fun w1 hw => (hw.sel (js := [0]) rfl).selO (js := []) rfl) (fun s hm => none_ne hm.1) (fun n1 ih1 s hm => ?_)
 obtain ⟨Φ_2, s1, s2⟩ := s
 obtain ⟨h, k1, ph0⟩ := hm
 dsimp only at h k1 ph0 ⊢
 unfold m_l_toExprS_l1 at h
 refine sq <| sr <| la rfl <| la rfl <| lq (q_lenR Sl_160 rfl rfl ph0) rfl <| la rfl <| en ?_
 refine cdh rfl h (fun c1 h => ?_) (fun c1 h => ?_)
 ·refine WT.skip <| sq <| blk <| rgn <| la rfl <| la rfl <| la rfl <| la rfl ?_
  obtain ⟨x2, hx2, h⟩ := bs h
  obtain ⟨cs1, F1, -, g1, hb1, hs1, r1⟩ := ph0.el (idx_some hx2).2.2
  obtain ⟨rfl, -⟩ := r1
  refine lq (q_indexAddr Sl_160 rfl rfl ph0 hx2) rfl <| lg11 0 Tn_241 g1 rfl rfl ?_
  obtain ⟨x3, hx3, h⟩ := bs h
  refine lp (p_call Fun_195 rfl (fun w1 hw => m_l_toExpr_ok hw.fro N x2 hx3)) rfl ?_
  obtain ⟨x4, hx4, h⟩ := bs h
  obtain ⟨cs2, F2, -, g2, hb2, hs2, r2⟩ := k1.elS (idx_some hx4).2.2
  obtain ⟨rfl, -⟩ := r2
  refine lq (q_indexAddr Sl_141 rfl rfl k1.rsl hx4) rfl ?_
  refine lu (u_setF (js := [0]) (Rr := []) (vs := [.string x3.Op, .int .i64 x3.L.K, .string x3.L.S, .int .i64 x3.L.V.K, .int .i64 x3.L.V.N, .string x3.L.V.S, .int .i64 x3.R.K, .string x3.R.S, .int .i64 x3.R.V.K, .int .i64 x3.R.V.N, .string x3.R.V.S]) (x' := x3) RTExpr.lasts RTExpr.flat Sz_191 rfl rfl rfl rfl ⟨rfl, rfl, rfl, rfl, rfl, rfl, rfl, rfl, rfl, rfl, rfl, trivial⟩ rfl k1 (idx_lt hx4) ⟨rfl, rfl⟩) rfl (fun Φ_3 D2 q2 => ?_)
  obtain ⟨⟨ap1, fr2⟩, h2⟩ := q2
  replace ph0 := ph0.frame RTExpr.lasts fr2 (ap1.o pa0)
  refine en <| ib <| rgn <| la rfl <| la rfl <| la rfl <| en ?_
  exact lback (ih1 (Φ_3, (s1.set s2.toNat x3), IntKind.i64.wrap (s2 + 1)) ⟨h, h2, ph0⟩) ⟨rfl, rfl, rfl, trivial⟩ (fun w1 hw => (hw.sel (js := [0]) rfl).selO (js := []) rfl)
 refine xt rfl <| sr <| la rfl <| la rfl <| en ?_
 refine WT.ret Tryz.func166 (resOk.one rfl) (fun w1 hw => ?_)
 subst hb0
 cases h
 refine postG_of_St (js := [0]) hw rfl ⟨v1, rfl, rfl, k1⟩
theorem m_l_toAct_ok {Φ : Hp} {w : World} (hΦ : In Φ w) (N : Nat) (p0 : TAct) {pv0_0 : Value} {pG0_0 : List Nat} (ph0_0 : RSl RTExpr 11 Φ pG0_0 pv0_0 p0.Args) {r : TAct} (h : m_l_toAct N p0 = some r) :
  Calls Tryz.prog 108 [.agg [.int .i64 p0.Kind, .string p0.Name, pv0_0, .int .i64 p0.N, .string p0.Undo].toArray].toArray w (PostG Φ w [] (fun Φ' Fs v => ∃ (sr_0_0 : Value), v = .agg [.int .i64 r.Kind, .string r.Name, sr_0_0, .int .i64 r.N, .string r.Undo].toArray ∧ Fs = [ob sr_0_0] ∧ OSl RTExpr 191 11 Φ' [] sr_0_0 r.Args)) := by
 refine enter Tryz.func108 rfl Tryz.ntmps108 rfl (St.start0 hΦ) ?_
 have pa0_0 := Old.mk hΦ ph0_0.kn (Dj.empty _)
 unfold m_l_toAct at h
 refine sr ?_
 refine ln (nb rfl) rfl (fun b_1 => ?_)
 refine ln (nz Zr_143) rfl (fun b_2 => ?_)
 refine en <| sr ?_
 refine ln (nz Zr_143) rfl (fun b_3 => ?_)
 refine en <| sr <| lf Fld_162_0 rfl rfl rfl <| lo T1_3 2 rfl <| lf Fld_143_0 rfl rfl rfl <| so1 0 Sz_3 rfl rfl ?_
 refine en <| sr <| lf Fld_162_1 rfl rfl rfl <| lo T1_9 2 rfl <| lf Fld_143_1 rfl rfl rfl <| so1 0 Sz_9 rfl rfl ?_
 refine en <| sr <| lf Fld_162_2 rfl rfl rfl <| lo T1_160 2 rfl ?_
 obtain ⟨x1, hx1, h⟩ := bs h
 refine lc (k_call (js := []) (R := []) Fun_166 rfl rfl (fun w1 hw ap hl => m_l_toExprS_ok hw.fro N p0.Args ph0_0  hx1)) rfl (fun v1 Φ_1 F1 q1 => ?_)
 obtain ⟨ap1, fr1, v2, rfl, rfl, h1⟩ := q1
 replace ph0_0 := ph0_0.frame RTExpr.lasts fr1 (ap1.o pa0_0)
 refine lf Fld_143_2 rfl rfl rfl <| so1 0 Sz_141 rfl h1.one ?_
 refine en <| sr <| lf Fld_162_3 rfl rfl rfl <| lo T1_3 2 rfl <| lf Fld_143_3 rfl rfl rfl <| so1 0 Sz_3 rfl rfl ?_
 refine en <| sr <| lf Fld_162_4 rfl rfl rfl <| lo T1_9 2 rfl <| lf Fld_143_4 rfl rfl rfl <| so1 0 Sz_9 rfl rfl ?_
 refine en <| sr <| ld5 Tn_143 0 rfl <| soN 1 Sz_143 rfl ⟨rfl, rfl, h1.one, rfl, rfl, trivial⟩ rfl ?_
 refine en ?_
 refine WT.ret Tryz.func108 (resOk.one (rv_cell Tn_143 rfl (fun w1 hw => hw.rgO (i := 1) rfl 0 5 [.int .i64 p0.Kind, .string p0.Name, v1, .int .i64 p0.N, .string p0.Undo] rfl) rfl)) (fun w1 hw => ?_)
 cases h
 refine postG_of_St (js := [0]) hw rfl ⟨v1, rfl, rfl, h1⟩
theorem m_l_toActS_ok {Φ : Hp} {w : World} (hΦ : In Φ w) (N : Nat) (p0 : (List TAct)) {pv0 : Value} {pG0 : List Nat} (ph0 : RSl RTAct 5 Φ pG0 pv0 p0) {r : (List TAct)} (h : m_l_toActS N p0 = some r) :
  Calls Tryz.prog 53 [pv0].toArray w (PostG Φ w [] (fun Φ' Fs v => ∃ (sr_0_0 : Value) (Dr_0_0 : List Nat), v = sr_0_0 ∧ Fs = [ob sr_0_0, Dr_0_0] ∧ OSl OTAct 143 5 Φ' Dr_0_0 sr_0_0 r)) := by
 refine enter Tryz.func53 rfl Tryz.ntmps53 rfl (St.start0 hΦ) ?_
 have pa0 := Old.mk hΦ ph0.kn (Dj.empty _)
 revert pa0
 generalize hb0 : (⟨w, [], Φ⟩ : Base) = w0
 intro pa0
 unfold m_l_toActS at h
 refine sr <| la rfl <| en <| sr <| la rfl <| lq (q_lenR Sl_49 rfl rfl ph0) rfl ?_
 obtain ⟨x1, hx1, h⟩ := bs h
 refine le' (e_make (R := OTAct) Sl_38 Zr_143 By_143 rfl rfl rfl (fun _ => ⟨.slice none 0 0, rfl, rfl, OSl.nil _ _ _ _⟩) rfl rfl (Int.le_refl _) hx1 (mk_le hx1)) rfl (fun v1 Φ_1 D1 q1 => ?_)
 obtain ⟨fr1, h1⟩ := q1
 replace ph0 := ph0.frame RTAct.lasts fr1 (Dj.empty _)
 refine WL.conv (S' := St w0 Φ_1 [] ([] :: [ob v1])) (fun w1 hw => hw.addNil) <| la rfl <| en <| sq <| sr <| la rfl <| en <| blk ?_
 refine loop_in (σ := Hp × (List TAct) × List Nat × Int) (fun s => [(0, pv0), (3, v1), (4, .int .i64 s.2.2.2)]) (fun s => St w0 s.1 [] [s.2.2.1, ob v1]) (fun m s => m_l_toActS_l1 N p0 m s.2.1 s.2.2.2 = some r ∧ (OSl OTAct 143 5 s.1 s.2.2.1 v1 s.2.1) ∧ (RSl RTAct 5 s.1 pG0 pv0 p0)) (Φ_1, x1, [], 0) N ⟨h, h1, ph0⟩ ⟨rfl, rfl, rfl, trivial⟩ (fun w1 hw => (hw.sel (js := [0, 0]) rfl).selO (js := []) rfl) (fun s hm => none_ne hm.1) (fun n1 ih1 s hm => ?_)
 obtain ⟨Φ_2, s1, D2, s2⟩ := s
 obtain ⟨h, k1, ph0⟩ := hm
 dsimp only at h k1 ph0 ⊢
 unfold m_l_toActS_l1 at h
 refine sq <| sr <| la rfl <| la rfl <| lq (q_lenR Sl_49 rfl rfl ph0) rfl <| la rfl <| en ?_
 refine cdh rfl h (fun c1 h => ?_) (fun c1 h => ?_)
 ·refine WT.skip <| sq <| blk <| rgn <| la rfl <| la rfl <| la rfl <| la rfl ?_
  obtain ⟨x2, hx2, h⟩ := bs h
  obtain ⟨cs1, F1, -, g1, hb1, hs1, r1⟩ := ph0.el (idx_some hx2).2.2
  obtain ⟨v2, G1, rfl, hq1, h2⟩ := r1
  obtain rfl := hq1.symm
  refine lq (q_indexAddr Sl_49 rfl rfl ph0 hx2) rfl <| lg5 0 Tn_162 g1 rfl rfl ?_
  obtain ⟨x3, hx3, h⟩ := bs h
  refine lc (k_call (js := []) (R := [D2, ob v1]) Fun_108 rfl rfl (fun w1 hw ap hl => m_l_toAct_ok hw.fro N x2 h2  hx3)) rfl (fun v3 Φ_3 F2 q2 => ?_)
  obtain ⟨ap1, fr2, v4, rfl, rfl, h3⟩ := q2
  replace ph0 := ph0.frame RTAct.lasts fr2 (ap1.o pa0)
  replace k1 := k1.frame OTAct.lasts fr2 (ap1.r (i := 1) rfl) (ap1.r (i := 0) rfl)
  obtain ⟨x4, hx4, h⟩ := bs h
  obtain ⟨cs2, F3, -, g2, hb2, hs2, r2⟩ := k1.elS (idx_some hx4).2.2
  obtain ⟨v5, rfl, rfl, h4⟩ := r2
  have h5 := h4.rsl
  refine lq (q_indexAddr Sl_38 rfl rfl k1.rsl hx4) rfl ?_
  have r3 : OTAct Φ_3 ((ob v4 ++ [])) [.int .i64 x3.Kind, .string x3.Name, v4, .int .i64 x3.N, .string x3.Undo] x3 := ⟨v4, rfl, rfl, h3⟩
  refine lu (u_setO (js := [2]) (Rr := [ob v4, D2]) (vs := [.int .i64 x3.Kind, .string x3.Name, v4, .int .i64 x3.N, .string x3.Undo]) (x' := x3) OTAct.lasts Sz_143 rfl rfl rfl rfl ⟨rfl, rfl, h3.one, rfl, rfl, trivial⟩ rfl k1 (idx_lt hx4) r3 (OTAct.knows _ _ _ _ r3) (fun ap => (ap.r (i := 1) rfl)) (fun ap => by simpa [ob_nil] using (ap.r (i := 0) rfl))) rfl (fun Φ_4 D3 q3 => ?_)
  obtain ⟨⟨ap2, fr3⟩, sp1, h6⟩ := q3
  replace ph0 := ph0.frame RTAct.lasts fr3 (ap2.o pa0)
  refine WL.conv (S' := St w0 Φ_4 [] [D3, ob v1]) (fun w1 hw => hw.merge (js := [2, 1]) rfl (by simpa [List.append_assoc, ob_nil] using sp1)) <| en <| ib <| rgn <| la rfl <| la rfl <| la rfl <| en ?_
  exact lback (ih1 (Φ_4, (s1.set s2.toNat x3), D3, IntKind.i64.wrap (s2 + 1)) ⟨h, h6, ph0⟩) ⟨rfl, rfl, rfl, trivial⟩ (fun w1 hw => (hw.sel (js := [0, 0]) rfl).selO (js := []) rfl)
 refine xt rfl <| sr <| la rfl <| la rfl <| en ?_
 refine WT.ret Tryz.func53 (resOk.one rfl) (fun w1 hw => ?_)
 subst hb0
 cases h
 refine postG_of_St (js := [1, 0]) hw rfl ⟨v1, D2, rfl, rfl, k1⟩
theorem m_l_toRule_ok {Φ : Hp} {w : World} (hΦ : In Φ w) (N : Nat) (p0 : TRule) {pv0_0 pv0_1 pv0_2 : Value} {pG0_0 pG0_1 pG0_2 : List Nat} (ph0_0 : RSl RTPat 3 Φ pG0_0 pv0_0 p0.Pats) (ph0_1 : RSl RTCond 11 Φ pG0_1 pv0_1 p0.Conds) (ph0_2 : RSl RTAct 5 Φ pG0_2 pv0_2 p0.Acts) {r : TRule} (h : m_l_toRule N p0 = some r) :
  Calls Tryz.prog 17 [.agg [.string p0.Name, .int .i64 p0.Sal, pv0_0, pv0_1, pv0_2].toArray].toArray w (PostG Φ w [] (fun Φ' Fs v => ∃ (sr_0_0 : Value) (Dr_0_0 : List Nat) (sr_0_1 : Value) (sr_0_2 : Value) (Dr_0_2 : List Nat), v = .agg [.string r.Name, .int .i64 r.Sal, sr_0_0, sr_0_1, sr_0_2].toArray ∧ Fs = [ob sr_0_0, Dr_0_0, ob sr_0_1, ob sr_0_2, Dr_0_2] ∧ OSl OTPat 171 3 Φ' Dr_0_0 sr_0_0 r.Pats ∧ OSl RTCond 139 11 Φ' [] sr_0_1 r.Conds ∧ OSl OTAct 143 5 Φ' Dr_0_2 sr_0_2 r.Acts)) := by
 refine enter Tryz.func17 rfl Tryz.ntmps17 rfl (St.start0 hΦ) ?_
 have pa0_0 := Old.mk hΦ ph0_0.kn (Dj.empty _)
 have pa0_1 := Old.mk hΦ ph0_1.kn (Dj.empty _)
 have pa0_2 := Old.mk hΦ ph0_2.kn (Dj.empty _)
 unfold m_l_toRule at h
 refine sr ?_
 refine ln (nb rfl) rfl (fun b_1 => ?_)
 refine ln (nz Zr_40) rfl (fun b_2 => ?_)
 refine en <| sr ?_
 refine ln (nz Zr_40) rfl (fun b_3 => ?_)
 refine en <| sr <| lf Fld_51_0 rfl rfl rfl <| lo T1_9 2 rfl <| lf Fld_40_0 rfl rfl rfl <| so1 0 Sz_9 rfl rfl ?_
 refine en <| sr <| lf Fld_51_1 rfl rfl rfl <| lo T1_3 2 rfl <| lf Fld_40_1 rfl rfl rfl <| so1 0 Sz_3 rfl rfl ?_
 refine en <| sr <| lf Fld_51_2 rfl rfl rfl <| lo T1_47 2 rfl ?_
 obtain ⟨x1, hx1, h⟩ := bs h
 refine lc (k_call (js := []) (R := []) Fun_51 rfl rfl (fun w1 hw ap hl => m_l_toPatS_ok hw.fro N p0.Pats ph0_0  hx1)) rfl (fun v1 Φ_1 F1 q1 => ?_)
 obtain ⟨ap1, fr1, v2, D1, rfl, rfl, h1⟩ := q1
 replace ph0_0 := ph0_0.frame RTPat.lasts fr1 (ap1.o pa0_0)
 replace ph0_1 := ph0_1.frame RTCond.lasts fr1 (ap1.o pa0_1)
 replace ph0_2 := ph0_2.frame RTAct.lasts fr1 (ap1.o pa0_2)
 refine lf Fld_40_2 rfl rfl rfl <| so1 0 Sz_36 rfl h1.one ?_
 refine en <| sr <| lf Fld_51_3 rfl rfl rfl <| lo T1_48 2 rfl ?_
 obtain ⟨x2, hx2, h⟩ := bs h
 refine lc (k_call (js := []) (R := [ob v1, D1]) Fun_52 rfl rfl (fun w1 hw ap hl => m_l_toCondS_ok hw.fro N p0.Conds ph0_1  hx2)) rfl (fun v3 Φ_2 F2 q2 => ?_)
 obtain ⟨ap2, fr2, v4, rfl, rfl, h2⟩ := q2
 replace ph0_0 := ph0_0.frame RTPat.lasts fr2 (ap2.o pa0_0)
 replace ph0_1 := ph0_1.frame RTCond.lasts fr2 (ap2.o pa0_1)
 replace ph0_2 := ph0_2.frame RTAct.lasts fr2 (ap2.o pa0_2)
 replace h1 := h1.frame OTPat.lasts fr2 (ap2.r (i := 0) rfl) (ap2.r (i := 1) rfl)
 refine lf Fld_40_3 rfl rfl rfl <| so1 0 Sz_37 rfl h2.one ?_
 refine en <| sr <| lf Fld_51_4 rfl rfl rfl <| lo T1_49 2 rfl ?_
 obtain ⟨x3, hx3, h⟩ := bs h
 refine lc (k_call (js := []) (R := [ob v3, ob v1, D1]) Fun_53 rfl rfl (fun w1 hw ap hl => m_l_toActS_ok hw.fro N p0.Acts ph0_2  hx3)) rfl (fun v5 Φ_3 F3 q3 => ?_)
 obtain ⟨ap3, fr3, v6, D2, rfl, rfl, h3⟩ := q3
 replace h1 := h1.frame OTPat.lasts fr3 (ap3.r (i := 1) rfl) (ap3.r (i := 2) rfl)
 replace h2 := h2.frame RTCond.lasts fr3 (ap3.r (i := 0) rfl) (Dj.nil _)
 refine lf Fld_40_4 rfl rfl rfl <| so1 0 Sz_38 rfl h3.one ?_
 refine en <| sr <| ld5 Tn_40 0 rfl <| soN 1 Sz_40 rfl ⟨rfl, rfl, h1.one, h2.one, h3.one, trivial⟩ rfl ?_
 refine en ?_
 refine WT.ret Tryz.func17 (resOk.one (rv_cell Tn_40 rfl (fun w1 hw => hw.rgO (i := 1) rfl 0 5 [.string p0.Name, .int .i64 p0.Sal, v1, v3, v5] rfl) rfl)) (fun w1 hw => ?_)
 cases h
 refine postG_of_St (js := [3, 3, 2, 0, 0]) hw rfl ⟨v1, D1, v3, v5, D2, rfl, rfl, h1, h2, h3⟩
theorem m_l_toRuleS_ok {Φ : Hp} {w : World} (hΦ : In Φ w) (N : Nat) (p0 : (List TRule)) {pv0 : Value} {pG0 : List Nat} (ph0 : RSl RTRule 5 Φ pG0 pv0 p0) {r : (List TRule)} (h : m_l_toRuleS N p0 = some r) :
  Calls Tryz.prog 69 [pv0].toArray w (PostG Φ w [] (fun Φ' Fs v => ∃ (sr_0_0 : Value) (Dr_0_0 : List Nat), v = sr_0_0 ∧ Fs = [ob sr_0_0, Dr_0_0] ∧ OSl OTRule 40 5 Φ' Dr_0_0 sr_0_0 r)) := by
 refine enter Tryz.func69 rfl Tryz.ntmps69 rfl (St.start0 hΦ) ?_
 have pa0 := Old.mk hΦ ph0.kn (Dj.empty _)
 revert pa0
 generalize hb0 : (⟨w, [], Φ⟩ : Base) = w0
 intro pa0
 unfold m_l_toRuleS at h
 refine sr <| la rfl <| en <| sr <| la rfl <| lq (q_lenR Sl_66 rfl rfl ph0) rfl ?_
 obtain ⟨x1, hx1, h⟩ := bs h
 refine le' (e_make (R := OTRule) Sl_24 Zr_40 By_40 rfl rfl rfl (fun _ => ⟨.slice none 0 0, [], .slice none 0 0, .slice none 0 0, [], rfl, rfl, OSl.nil _ _ _ _, OSl.nil _ _ _ _, OSl.nil _ _ _ _⟩) rfl rfl (Int.le_refl _) hx1 (mk_le hx1)) rfl (fun v1 Φ_1 D1 q1 => ?_)
 obtain ⟨fr1, h1⟩ := q1
 replace ph0 := ph0.frame RTRule.lasts fr1 (Dj.empty _)
 refine WL.conv (S' := St w0 Φ_1 [] ([] :: [ob v1])) (fun w1 hw => hw.addNil) <| la rfl <| en <| sq <| sr <| la rfl <| en <| blk ?_
 refine loop_in (σ := Hp × (List TRule) × List Nat × Int) (fun s => [(0, pv0), (3, v1), (4, .int .i64 s.2.2.2)]) (fun s => St w0 s.1 [] [s.2.2.1, ob v1]) (fun m s => m_l_toRuleS_l1 N p0 m s.2.1 s.2.2.2 = some r ∧ (OSl OTRule 40 5 s.1 s.2.2.1 v1 s.2.1) ∧ (RSl RTRule 5 s.1 pG0 pv0 p0)) (Φ_1, x1, [], 0) N ⟨h, h1, ph0⟩ ⟨rfl, rfl, rfl, trivial⟩ (fun w1 hw => (hw.sel (js := [0, 0]) rfl).selO (js := []) rfl) (fun s hm => none_ne hm.1) (fun n1 ih1 s hm => ?_)
 obtain ⟨Φ_2, s1, D2, s2⟩ := s
 obtain ⟨h, k1, ph0⟩ := hm
 dsimp only at h k1 ph0 ⊢
 unfold m_l_toRuleS_l1 at h
 refine sq <| sr <| la rfl <| la rfl <| lq (q_lenR Sl_66 rfl rfl ph0) rfl <| la rfl <| en ?_
 refine cdh rfl h (fun c1 h => ?_) (fun c1 h => ?_)
 ·refine WT.skip <| sq <| blk <| rgn <| la rfl <| la rfl <| la rfl <| la rfl ?_
  obtain ⟨x2, hx2, h⟩ := bs h
  obtain ⟨cs1, F1, -, g1, hb1, hs1, r1⟩ := ph0.el (idx_some hx2).2.2
  obtain ⟨v2, G1, v3, G2, v4, G3, rfl, rfl, h2, h3, h4⟩ := r1
  refine lq (q_indexAddr Sl_66 rfl rfl ph0 hx2) rfl <| lg5 0 Tn_51 g1 rfl rfl ?_
  obtain ⟨x3, hx3, h⟩ := bs h
  refine lc (k_call (js := []) (R := [D2, ob v1]) Fun_17 rfl rfl (fun w1 hw ap hl => m_l_toRule_ok hw.fro N x2 h2 h3 h4  hx3)) rfl (fun v5 Φ_3 F2 q2 => ?_)
  obtain ⟨ap1, fr2, v6, D3, v7, v8, D4, rfl, rfl, h5, h6, h7⟩ := q2
  replace ph0 := ph0.frame RTRule.lasts fr2 (ap1.o pa0)
  replace k1 := k1.frame OTRule.lasts fr2 (ap1.r (i := 1) rfl) (ap1.r (i := 0) rfl)
  obtain ⟨x4, hx4, h⟩ := bs h
  obtain ⟨cs2, F3, -, g2, hb2, hs2, r2⟩ := k1.elS (idx_some hx4).2.2
  obtain ⟨v9, D5, v10, v11, D6, rfl, rfl, h8, h9, h10⟩ := r2
  have h11 := h8.rslG OTPat.gives
  have h12 := h9.rsl
  have h13 := h10.rslG OTAct.gives
  refine lq (q_indexAddr Sl_24 rfl rfl k1.rsl hx4) rfl ?_
  have r3 : OTRule Φ_3 ((ob v6 ++ D3) ++ ((ob v7 ++ []) ++ ((ob v8 ++ D4)))) [.string x3.Name, .int .i64 x3.Sal, v6, v7, v8] x3 := ⟨v6, D3, v7, v8, D4, rfl, rfl, h5, h6, h7⟩
  refine lu (u_setO (js := [6]) (Rr := [ob v6, D3, ob v7, ob v8, D4, D2]) (vs := [.string x3.Name, .int .i64 x3.Sal, v6, v7, v8]) (x' := x3) OTRule.lasts Sz_40 rfl rfl rfl rfl ⟨rfl, rfl, h5.one, h6.one, h7.one, trivial⟩ rfl k1 (idx_lt hx4) r3 (OTRule.knows _ _ _ _ r3) (fun ap => (ap.r (i := 5) rfl)) (fun ap => by simpa [ob_nil] using (Dj.app (ap.r (i := 0) rfl) (Dj.app (ap.r (i := 1) rfl) (Dj.app (ap.r (i := 2) rfl) (Dj.app (ap.r (i := 3) rfl) (ap.r (i := 4) rfl))))))) rfl (fun Φ_4 D7 q3 => ?_)
  obtain ⟨⟨ap2, fr3⟩, sp1, h14⟩ := q3
  replace ph0 := ph0.frame RTRule.lasts fr3 (ap2.o pa0)
  refine WL.conv (S' := St w0 Φ_4 [] [D7, ob v1]) (fun w1 hw => hw.merge (js := [6, 1, 1, 1, 1, 1]) rfl (by simpa [List.append_assoc, ob_nil] using sp1)) <| en <| ib <| rgn <| la rfl <| la rfl <| la rfl <| en ?_
  exact lback (ih1 (Φ_4, (s1.set s2.toNat x3), D7, IntKind.i64.wrap (s2 + 1)) ⟨h, h14, ph0⟩) ⟨rfl, rfl, rfl, trivial⟩ (fun w1 hw => (hw.sel (js := [0, 0]) rfl).selO (js := []) rfl)
 refine xt rfl <| sr <| la rfl <| la rfl <| en ?_
 refine WT.ret Tryz.func69 (resOk.one rfl) (fun w1 hw => ?_)
 subst hb0
 cases h
 refine postG_of_St (js := [1, 0]) hw rfl ⟨v1, D2, rfl, rfl, k1⟩
theorem m_l_toDef_ok {Φ : Hp} {w : World} (hΦ : In Φ w) (N : Nat) (p0 : TDef) {pv0_0 : Value} {pG0_0 : List Nat} (ph0_0 : RSl RTRule 5 Φ pG0_0 pv0_0 p0.Rules) {r : TDef} (h : m_l_toDef N p0 = some r) :
  Calls Tryz.prog 27 [.agg [.string p0.Name, pv0_0].toArray].toArray w (PostG Φ w [] (fun Φ' Fs v => ∃ (sr_0_0 : Value) (Dr_0_0 : List Nat), v = .agg [.string r.Name, sr_0_0].toArray ∧ Fs = [ob sr_0_0, Dr_0_0] ∧ OSl OTRule 40 5 Φ' Dr_0_0 sr_0_0 r.Rules)) := by
 refine enter Tryz.func27 rfl Tryz.ntmps27 rfl (St.start0 hΦ) ?_
 unfold m_l_toDef at h
 refine sr ?_
 refine ln (nb rfl) rfl (fun b_1 => ?_)
 refine ln (nz Zr_26) rfl (fun b_2 => ?_)
 refine en <| sr ?_
 refine ln (nz Zr_26) rfl (fun b_3 => ?_)
 refine en <| sr <| lf Fld_68_0 rfl rfl rfl <| lo T1_9 2 rfl <| lf Fld_26_0 rfl rfl rfl <| so1 0 Sz_9 rfl rfl ?_
 refine en <| sr <| lf Fld_68_1 rfl rfl rfl <| lo T1_66 2 rfl ?_
 obtain ⟨x1, hx1, h⟩ := bs h
 refine lc (k_call (js := []) (R := []) Fun_69 rfl rfl (fun w1 hw ap hl => m_l_toRuleS_ok hw.fro N p0.Rules ph0_0  hx1)) rfl (fun v1 Φ_1 F1 q1 => ?_)
 obtain ⟨ap1, fr1, v2, D1, rfl, rfl, h1⟩ := q1
 refine lf Fld_26_1 rfl rfl rfl <| so1 0 Sz_24 rfl h1.one ?_
 refine en <| sr <| ld2 Tn_26 0 rfl <| soN 1 Sz_26 rfl ⟨rfl, h1.one, trivial⟩ rfl ?_
 refine en ?_
 refine WT.ret Tryz.func27 (resOk.one (rv_cell Tn_26 rfl (fun w1 hw => hw.rgO (i := 1) rfl 0 2 [.string p0.Name, v1] rfl) rfl)) (fun w1 hw => ?_)
 cases h
 refine postG_of_St (js := [0, 0]) hw rfl ⟨v1, D1, rfl, rfl, h1⟩
theorem m_l_eqArg_ok {Φ : Hp} {w : World} (hΦ : In Φ w) (N : Nat) (p0 : TArg) (p1 : TArg)   {r : Bool} (h : m_l_eqArg N p0 p1 = some r) :
  Calls Tryz.prog 170 [.agg [.int .i64 p0.K, .string p0.S, .int .i64 p0.V.K, .int .i64 p0.V.N, .string p0.V.S].toArray, .agg [.int .i64 p1.K, .string p1.S, .int .i64 p1.V.K, .int .i64 p1.V.N, .string p1.V.S].toArray].toArray w (Post (.bool r) w) := by
 refine enter Tryz.func170 rfl Tryz.ntmps170 rfl (St.start0 hΦ) ?_
 unfold m_l_eqArg at h
 refine sr ?_
 refine ln (nb rfl) rfl (fun b_1 => ?_)
 refine ln (nb rfl) rfl (fun b_2 => ?_)
 refine la rfl <| en <| sq <| sr <| lf Fld_137_0 rfl rfl rfl <| lo T1_3 1 rfl <| lf Fld_137_0 rfl rfl rfl <| lo T1_3 0 rfl <| la rfl <| en ?_
 refine cdh rfl h (fun c1 h => ?_) (fun c1 h => ?_)
 ·refine sr <| la rfl <| en ?_
  refine WT.ret Tryz.func170 (resOk.one rfl) (fun w1 hw => ?_)
  cases h
  exact post_of_St hw
 refine WT.skip <| sq <| sr <| lf Fld_137_1 rfl rfl rfl <| lo T1_9 1 rfl <| lf Fld_137_1 rfl rfl rfl <| lo T1_9 0 rfl <| la rfl <| en ?_
 refine cdh rfl h (fun c2 h => ?_) (fun c2 h => ?_)
 ·refine sr <| la rfl <| en ?_
  refine WT.ret Tryz.func170 (resOk.one rfl) (fun w1 hw => ?_)
  cases h
  exact post_of_St hw
 refine WT.skip <| sq <| sr <| lf Fld_137_2 rfl rfl rfl <| ld3 Tn_85 1 rfl <| lf Fld_137_2 rfl rfl rfl <| ld3 Tn_85 0 rfl ?_
 obtain ⟨x1, hx1, h⟩ := bs h
 refine lp (p_call Fun_197 rfl (fun w1 hw => m_l_eqVal_ok hw.fro N p0.V p1.V hx1)) rfl <| la rfl <| en ?_
 refine cdh rfl h (fun c3 h => ?_) (fun c3 h => ?_)
 ·refine sr <| la rfl <| en ?_
  refine WT.ret Tryz.func170 (resOk.one rfl) (fun w1 hw => ?_)
  cases h
  exact post_of_St hw
 refine WT.skip <| sr <| la rfl <| en ?_
 refine WT.ret Tryz.func170 (resOk.one rfl) (fun w1 hw => ?_)
 cases h
 exact post_of_St hw
theorem m_l_eqArgS_ok {Φ : Hp} {w : World} (hΦ : In Φ w) (N : Nat) (p0 : (List TArg)) (p1 : (List TArg)) {pv0 pv1 : Value} {pG0 pG1 : List Nat} (ph0 : RSl RTArg 5 Φ pG0 pv0 p0) (ph1 : RSl RTArg 5 Φ pG1 pv1 p1) {r : Bool} (h : m_l_eqArgS N p0 p1 = some r) :
  Calls Tryz.prog 169 [pv0, pv1].toArray w (Post (.bool r) w) := by
 refine enter Tryz.func169 rfl Tryz.ntmps169 rfl (St.start0 hΦ) ?_
 generalize hb0 : (⟨w, [], Φ⟩ : Base) = w0
 unfold m_l_eqArgS at h
 refine sr <| la rfl <| en <| sq <| sr <| la rfl <| lq (q_lenR Sl_169 rfl rfl ph0) rfl <| la rfl <| lq (q_lenR Sl_169 rfl rfl ph1) rfl <| la rfl <| en ?_
 refine cdh rfl h (fun c1 h => ?_) (fun c1 h => ?_)
 ·refine sr <| la rfl <| en ?_
  refine WT.ret Tryz.func169 (resOk.one rfl) (fun w1 hw => ?_)
  subst hb0
  cases h
  exact post_of_St hw
 refine WT.skip <| sq <| sr <| la rfl <| en <| blk ?_
 refine loop_in (σ := Int) (fun s => [(0, pv0), (1, pv1), (5, .int .i64 s)]) (fun s => St w0 Φ [] []) (fun m s => m_l_eqArgS_l1 N p0 p1 m s = some r) (0) N h ⟨rfl, rfl, rfl, trivial⟩ (fun w1 hw => (hw.sel (js := []) rfl).selO (js := []) rfl) (fun s hm => none_ne hm) (fun n1 ih1 s hm => ?_)
 revert hm; revert s; intro s1 hm
 have h : m_l_eqArgS_l1 N p0 p1 (n1 + 1) s1 = some r := hm
 show WT _ _ [(0, pv0), (1, pv1), (5, .int .i64 s1)] (St w0 Φ [] [])
 unfold m_l_eqArgS_l1 at h
 refine sq <| sr <| la rfl <| la rfl <| lq (q_lenR Sl_169 rfl rfl ph0) rfl <| la rfl <| en ?_
 refine cdh rfl h (fun c2 h => ?_) (fun c2 h => ?_)
 ·refine WT.skip <| sq <| blk <| sq <| WT.draw mixed (by kernel_rfl) (fun _ h => h.drew) <| qq (q_move rfl) rfl <| qq (q_move rfl) rfl ?_
  obtain ⟨x1, hx1, h⟩ := bs h
  obtain ⟨cs1, F1, -, g1, hb1, hs1, r1⟩ := ph0.el (idx_some hx1).2.2
  obtain ⟨rfl, -⟩ := r1
  refine qq (q_indexAddr Sl_169 rfl rfl ph0 hx1) rfl <| qq (q_loadN Tn_137 rfl (fun w1 hw => (g1.of_eq 0 5 rfl rfl : rg _ _ _ [.int .i64 x1.K, .string x1.S, .int .i64 x1.V.K, .int .i64 x1.V.N, .string x1.V.S]).rangeAt hw.fro) rfl) rfl <| qq (q_move rfl) rfl <| qq (q_move rfl) rfl ?_
  obtain ⟨x2, hx2, h⟩ := bs h
  obtain ⟨cs2, F2, -, g2, hb2, hs2, r2⟩ := ph1.el (idx_some hx2).2.2
  obtain ⟨rfl, -⟩ := r2
  refine qq (q_indexAddr Sl_169 rfl rfl ph1 hx2) rfl <| qq (q_loadN Tn_137 rfl (fun w1 hw => (g2.of_eq 0 5 rfl rfl : rg _ _ _ [.int .i64 x2.K, .string x2.S, .int .i64 x2.V.K, .int .i64 x2.V.N, .string x2.V.S]).rangeAt hw.fro) rfl) rfl ?_
  obtain ⟨x3, hx3, h⟩ := bs h
  refine qp (p_call Fun_170 rfl (fun w1 hw => m_l_eqArg_ok hw.fro N x1 x2 hx3)) rfl <| qq (q_not rfl) rfl <| WQ.nil ?_
  refine cdh rfl h (fun c3 h => ?_) (fun c3 h => ?_)
  ·refine sr <| la rfl <| en ?_
   refine WT.ret Tryz.func169 (resOk.one rfl) (fun w1 hw => ?_)
   subst hb0
   cases h
   exact post_of_St hw
  refine WT.skip <| ib <| rgn <| la rfl <| la rfl <| la rfl <| en ?_
  exact lback (ih1 (IntKind.i64.wrap (s1 + 1)) h) ⟨rfl, rfl, rfl, trivial⟩ (fun w1 hw => (hw.sel (js := []) rfl).selO (js := []) rfl)
 refine xt rfl <| sr <| la rfl <| en ?_
 refine WT.ret Tryz.func169 (resOk.one rfl) (fun w1 hw => ?_)
 subst hb0
 cases h
 exact post_of_St hw
theorem m_l_eqPat_ok {Φ : Hp} {w : World} (hΦ : In Φ w) (N : Nat) (p0 : TPat) (p1 : TPat) {pv0_0 pv1_0 : Value} {pG0_0 pG1_0 : List Nat} (ph0_0 : RSl RTArg 5 Φ pG0_0 pv0_0 p0.Args) (ph1_0 : RSl RTArg 5 Φ pG1_0 pv1_0 p1.Args) {r : Bool} (h : m_l_eqPat N p0 p1 = some r) :
  Calls Tryz.prog 112 [.agg [.string p0.Kind, pv0_0, .bool p0.Not].toArray, .agg [.string p1.Kind, pv1_0, .bool p1.Not].toArray].toArray w (Post (.bool r) w) := by
 refine enter Tryz.func112 rfl Tryz.ntmps112 rfl (St.start0 hΦ) ?_
 unfold m_l_eqPat at h
 refine sr ?_
 refine ln (nb rfl) rfl (fun b_1 => ?_)
 refine ln (nb rfl) rfl (fun b_2 => ?_)
 refine la rfl <| en <| sq <| sr <| lf Fld_171_0 rfl rfl rfl <| lo T1_9 1 rfl <| lf Fld_171_0 rfl rfl rfl <| lo T1_9 0 rfl <| la rfl <| en ?_
 refine cdh rfl h (fun c1 h => ?_) (fun c1 h => ?_)
 ·refine sr <| la rfl <| en ?_
  refine WT.ret Tryz.func112 (resOk.one rfl) (fun w1 hw => ?_)
  cases h
  exact post_of_St hw
 refine WT.skip <| sq <| sr <| lf Fld_171_1 rfl rfl rfl <| lo T1_169 1 rfl <| lf Fld_171_1 rfl rfl rfl <| lo T1_169 0 rfl ?_
 obtain ⟨x1, hx1, h⟩ := bs h
 refine lp (p_call Fun_169 rfl (fun w1 hw => m_l_eqArgS_ok hw.fro N p0.Args p1.Args ph0_0 ph1_0 hx1)) rfl <| la rfl <| en ?_
 refine cdh rfl h (fun c2 h => ?_) (fun c2 h => ?_)
 ·refine sr <| la rfl <| en ?_
  refine WT.ret Tryz.func112 (resOk.one rfl) (fun w1 hw => ?_)
  cases h
  exact post_of_St hw
 refine WT.skip <| sq <| sr <| lf Fld_171_2 rfl rfl rfl <| lo T1_4 1 rfl <| lf Fld_171_2 rfl rfl rfl <| lo T1_4 0 rfl <| lq (q_bne Bo_4 rfl rfl) rfl <| en ?_
 refine cdh rfl h (fun c3 h => ?_) (fun c3 h => ?_)
 ·refine sr <| la rfl <| en ?_
  refine WT.ret Tryz.func112 (resOk.one rfl) (fun w1 hw => ?_)
  cases h
  exact post_of_St hw
 refine WT.skip <| sr <| la rfl <| en ?_
 refine WT.ret Tryz.func112 (resOk.one rfl) (fun w1 hw => ?_)
 cases h
 exact post_of_St hw
theorem m_l_eqPatS_ok {Φ : Hp} {w : World} (hΦ : In Φ w) (N : Nat) (p0 : (List TPat)) (p1 : (List TPat)) {pv0 pv1 : Value} {pG0 pG1 : List Nat} (ph0 : RSl RTPat 3 Φ pG0 pv0 p0) (ph1 : RSl RTPat 3 Φ pG1 pv1 p1) {r : Bool} (h : m_l_eqPatS N p0 p1 = some r) :
  Calls Tryz.prog 56 [pv0, pv1].toArray w (Post (.bool r) w) := by
 refine enter Tryz.func56 rfl Tryz.ntmps56 rfl (St.start0 hΦ) ?_
 generalize hb0 : (⟨w, [], Φ⟩ : Base) = w0
 unfold m_l_eqPatS at h
 refine sr <| la rfl <| en <| sq <| sr <| la rfl <| lq (q_lenR Sl_36 rfl rfl ph0) rfl <| la rfl <| lq (q_lenR Sl_36 rfl rfl ph1) rfl <| la rfl <| en ?_
 refine cdh rfl h (fun c1 h => ?_) (fun c1 h => ?_)
 ·refine sr <| la rfl <| en ?_
  refine WT.ret Tryz.func56 (resOk.one rfl) (fun w1 hw => ?_)
  subst hb0
  cases h
  exact post_of_St hw
 refine WT.skip <| sq <| sr <| la rfl <| en <| blk ?_
 refine loop_in (σ := Int) (fun s => [(0, pv0), (1, pv1), (5, .int .i64 s)]) (fun s => St w0 Φ [] []) (fun m s => m_l_eqPatS_l1 N p0 p1 m s = some r) (0) N h ⟨rfl, rfl, rfl, trivial⟩ (fun w1 hw => (hw.sel (js := []) rfl).selO (js := []) rfl) (fun s hm => none_ne hm) (fun n1 ih1 s hm => ?_)
 revert hm; revert s; intro s1 hm
 have h : m_l_eqPatS_l1 N p0 p1 (n1 + 1) s1 = some r := hm
 show WT _ _ [(0, pv0), (1, pv1), (5, .int .i64 s1)] (St w0 Φ [] [])
 unfold m_l_eqPatS_l1 at h
 refine sq <| sr <| la rfl <| la rfl <| lq (q_lenR Sl_36 rfl rfl ph0) rfl <| la rfl <| en ?_
 refine cdh rfl h (fun c2 h => ?_) (fun c2 h => ?_)
 ·refine WT.skip <| sq <| blk <| sq <| WT.draw mixed (by kernel_rfl) (fun _ h => h.drew) <| qq (q_move rfl) rfl <| qq (q_move rfl) rfl ?_
  obtain ⟨x1, hx1, h⟩ := bs h
  obtain ⟨cs1, F1, -, g1, hb1, hs1, r1⟩ := ph0.el (idx_some hx1).2.2
  obtain ⟨v1, G1, rfl, hq1, h1⟩ := r1
  obtain rfl := hq1.symm
  refine qq (q_indexAddr Sl_36 rfl rfl ph0 hx1) rfl <| qq (q_loadN Tn_171 rfl (fun w1 hw => (g1.of_eq 0 3 rfl rfl : rg _ _ _ [.string x1.Kind, v1, .bool x1.Not]).rangeAt hw.fro) rfl) rfl <| qq (q_move rfl) rfl <| qq (q_move rfl) rfl ?_
  obtain ⟨x2, hx2, h⟩ := bs h
  obtain ⟨cs2, F2, -, g2, hb2, hs2, r2⟩ := ph1.el (idx_some hx2).2.2
  obtain ⟨v2, G2, rfl, hq2, h2⟩ := r2
  obtain rfl := hq2.symm
  refine qq (q_indexAddr Sl_36 rfl rfl ph1 hx2) rfl <| qq (q_loadN Tn_171 rfl (fun w1 hw => (g2.of_eq 0 3 rfl rfl : rg _ _ _ [.string x2.Kind, v2, .bool x2.Not]).rangeAt hw.fro) rfl) rfl ?_
  obtain ⟨x3, hx3, h⟩ := bs h
  refine qp (p_call Fun_112 rfl (fun w1 hw => m_l_eqPat_ok hw.fro N x1 x2 h1 h2 hx3)) rfl <| qq (q_not rfl) rfl <| WQ.nil ?_
  refine cdh rfl h (fun c3 h => ?_) (fun c3 h => ?_)
  ·refine sr <| la rfl <| en ?_
   refine WT.ret Tryz.func56 (resOk.one rfl) (fun w1 hw => ?_)
   subst hb0
   cases h
   exact post_of_St hw
  refine WT.skip <| ib <| rgn <| la rfl <| la rfl <| la rfl <| en ?_
  exact lback (ih1 (IntKind.i64.wrap (s1 + 1)) h) ⟨rfl, rfl, rfl, trivial⟩ (fun w1 hw => (hw.sel (js := []) rfl).selO (js := []) rfl)
 refine xt rfl <| sr <| la rfl <| en ?_
 refine WT.ret Tryz.func56 (resOk.one rfl) (fun w1 hw => ?_)
 subst hb0
 cases h
 exact post_of_St hw
theorem m_l_eqCond_ok {Φ : Hp} {w : World} (hΦ : In Φ w) (N : Nat) (p0 : TCond) (p1 : TCond)   {r : Bool} (h : m_l_eqCond N p0 p1 = some r) :
  Calls Tryz.prog 113 [.agg [.int .i64 p0.Op, .int .i64 p0.L.K, .string p0.L.S, .int .i64 p0.L.V.K, .int .i64 p0.L.V.N, .string p0.L.V.S, .int .i64 p0.R.K, .string p0.R.S, .int .i64 p0.R.V.K, .int .i64 p0.R.V.N, .string p0.R.V.S].toArray, .agg [.int .i64 p1.Op, .int .i64 p1.L.K, .string p1.L.S, .int .i64 p1.L.V.K, .int .i64 p1.L.V.N, .string p1.L.V.S, .int .i64 p1.R.K, .string p1.R.S, .int .i64 p1.R.V.K, .int .i64 p1.R.V.N, .string p1.R.V.S].toArray].toArray w (Post (.bool r) w) := by
 refine enter Tryz.func113 rfl Tryz.ntmps113 rfl (St.start0 hΦ) ?_
 unfold m_l_eqCond at h
 refine sr ?_
 refine ln (nb rfl) rfl (fun b_1 => ?_)
 refine ln (nb rfl) rfl (fun b_2 => ?_)
 refine la rfl <| en <| sq <| sr <| lf Fld_139_0 rfl rfl rfl <| lo T1_3 1 rfl <| lf Fld_139_0 rfl rfl rfl <| lo T1_3 0 rfl <| la rfl <| en ?_
 refine cdh rfl h (fun c1 h => ?_) (fun c1 h => ?_)
 ·refine sr <| la rfl <| en ?_
  refine WT.ret Tryz.func113 (resOk.one rfl) (fun w1 hw => ?_)
  cases h
  exact post_of_St hw
 refine WT.skip <| sq <| sr <| lf Fld_139_1 rfl rfl rfl <| ld5 Tn_137 1 rfl <| lf Fld_139_1 rfl rfl rfl <| ld5 Tn_137 0 rfl ?_
 obtain ⟨x1, hx1, h⟩ := bs h
 refine lp (p_call Fun_170 rfl (fun w1 hw => m_l_eqArg_ok hw.fro N p0.L p1.L hx1)) rfl <| la rfl <| en ?_
 refine cdh rfl h (fun c2 h => ?_) (fun c2 h => ?_)
 ·refine sr <| la rfl <| en ?_
  refine WT.ret Tryz.func113 (resOk.one rfl) (fun w1 hw => ?_)
  cases h
  exact post_of_St hw
 refine WT.skip <| sq <| sr <| lf Fld_139_2 rfl rfl rfl <| ld5 Tn_137 1 rfl <| lf Fld_139_2 rfl rfl rfl <| ld5 Tn_137 0 rfl ?_
 obtain ⟨x2, hx2, h⟩ := bs h
 refine lp (p_call Fun_170 rfl (fun w1 hw => m_l_eqArg_ok hw.fro N p0.R p1.R hx2)) rfl <| la rfl <| en ?_
 refine cdh rfl h (fun c3 h => ?_) (fun c3 h => ?_)
 ·refine sr <| la rfl <| en ?_
  refine WT.ret Tryz.func113 (resOk.one rfl) (fun w1 hw => ?_)
  cases h
  exact post_of_St hw
 refine WT.skip <| sr <| la rfl <| en ?_
 refine WT.ret Tryz.func113 (resOk.one rfl) (fun w1 hw => ?_)
 cases h
 exact post_of_St hw
theorem m_l_eqCondS_ok {Φ : Hp} {w : World} (hΦ : In Φ w) (N : Nat) (p0 : (List TCond)) (p1 : (List TCond)) {pv0 pv1 : Value} {pG0 pG1 : List Nat} (ph0 : RSl RTCond 11 Φ pG0 pv0 p0) (ph1 : RSl RTCond 11 Φ pG1 pv1 p1) {r : Bool} (h : m_l_eqCondS N p0 p1 = some r) :
  Calls Tryz.prog 57 [pv0, pv1].toArray w (Post (.bool r) w) := by
 refine enter Tryz.func57 rfl Tryz.ntmps57 rfl (St.start0 hΦ) ?_
 generalize hb0 : (⟨w, [], Φ⟩ : Base) = w0
 unfold m_l_eqCondS at h
 refine sr <| la rfl <| en <| sq <| sr <| la rfl <| lq (q_lenR Sl_37 rfl rfl ph0) rfl <| la rfl <| lq (q_lenR Sl_37 rfl rfl ph1) rfl <| la rfl <| en ?_
 refine cdh rfl h (fun c1 h => ?_) (fun c1 h => ?_)
 ·refine sr <| la rfl <| en ?_
  refine WT.ret Tryz.func57 (resOk.one rfl) (fun w1 hw => ?_)
  subst hb0
  cases h
  exact post_of_St hw
 refine WT.skip <| sq <| sr <| la rfl <| en <| blk ?_
 refine loop_in (σ := Int) (fun s => [(0, pv0), (1, pv1), (5, .int .i64 s)]) (fun s => St w0 Φ [] []) (fun m s => m_l_eqCondS_l1 N p0 p1 m s = some r) (0) N h ⟨rfl, rfl, rfl, trivial⟩ (fun w1 hw => (hw.sel (js := []) rfl).selO (js := []) rfl) (fun s hm => none_ne hm) (fun n1 ih1 s hm => ?_)
 revert hm; revert s; intro s1 hm
 have h : m_l_eqCondS_l1 N p0 p1 (n1 + 1) s1 = some r := hm
 show WT _ _ [(0, pv0), (1, pv1), (5, .int .i64 s1)] (St w0 Φ [] [])
 unfold m_l_eqCondS_l1 at h
 refine sq <| sr <| la rfl <| la rfl <| lq (q_lenR Sl_37 rfl rfl ph0) rfl <| la rfl <| en ?_
 refine cdh rfl h (fun c2 h => ?_) (fun c2 h => ?_)
 ·refine WT.skip <| sq <| blk <| sq <| WT.draw mixed (by kernel_rfl) (fun _ h => h.drew) <| qq (q_move rfl) rfl <| qq (q_move rfl) rfl ?_
  obtain ⟨x1, hx1, h⟩ := bs h
  obtain ⟨cs1, F1, -, g1, hb1, hs1, r1⟩ := ph0.el (idx_some hx1).2.2
  obtain ⟨rfl, -⟩ := r1
  refine qq (q_indexAddr Sl_37 rfl rfl ph0 hx1) rfl <| qq (q_loadN Tn_139 rfl (fun w1 hw => (g1.of_eq 0 11 rfl rfl : rg _ _ _ [.int .i64 x1.Op, .int .i64 x1.L.K, .string x1.L.S, .int .i64 x1.L.V.K, .int .i64 x1.L.V.N, .string x1.L.V.S, .int .i64 x1.R.K, .string x1.R.S, .int .i64 x1.R.V.K, .int .i64 x1.R.V.N, .string x1.R.V.S]).rangeAt hw.fro) rfl) rfl <| qq (q_move rfl) rfl <| qq (q_move rfl) rfl ?_
  obtain ⟨x2, hx2, h⟩ := bs h
  obtain ⟨cs2, F2, -, g2, hb2, hs2, r2⟩ := ph1.el (idx_some hx2).2.2
  obtain ⟨rfl, -⟩ := r2
  refine qq (q_indexAddr Sl_37 rfl rfl ph1 hx2) rfl <| qq (q_loadN Tn_139 rfl (fun w1 hw => (g2.of_eq 0 11 rfl rfl : rg _ _ _ [.int .i64 x2.Op, .int .i64 x2.L.K, .string x2.L.S, .int .i64 x2.L.V.K, .int .i64 x2.L.V.N, .string x2.L.V.S, .int .i64 x2.R.K, .string x2.R.S, .int .i64 x2.R.V.K, .int .i64 x2.R.V.N, .string x2.R.V.S]).rangeAt hw.fro) rfl) rfl ?_
  obtain ⟨x3, hx3, h⟩ := bs h
  refine qp (p_call Fun_113 rfl (fun w1 hw => m_l_eqCond_ok hw.fro N x1 x2 hx3)) rfl <| qq (q_not rfl) rfl <| WQ.nil ?_
  refine cdh rfl h (fun c3 h => ?_) (fun c3 h => ?_)
  ·refine sr <| la rfl <| en ?_
   refine WT.ret Tryz.func57 (resOk.one rfl) (fun w1 hw => ?_)
   subst hb0
   cases h
   exact post_of_St hw
  refine WT.skip <| ib <| rgn <| la rfl <| la rfl <| la rfl <| en ?_
  exact lback (ih1 (IntKind.i64.wrap (s1 + 1)) h) ⟨rfl, rfl, rfl, trivial⟩ (fun w1 hw => (hw.sel (js := []) rfl).selO (js := []) rfl)
 refine xt rfl <| sr <| la rfl <| en ?_
 refine WT.ret Tryz.func57 (resOk.one rfl) (fun w1 hw => ?_)
 subst hb0
 cases h
 exact post_of_St hw
theorem m_l_eqExpr_ok {Φ : Hp} {w : World} (hΦ : In Φ w) (N : Nat) (p0 : TExpr) (p1 : TExpr)   {r : Bool} (h : m_l_eqExpr N p0 p1 = some r) :
  Calls Tryz.prog 198 [.agg [.string p0.Op, .int .i64 p0.L.K, .string p0.L.S, .int .i64 p0.L.V.K, .int .i64 p0.L.V.N, .string p0.L.V.S, .int .i64 p0.R.K, .string p0.R.S, .int .i64 p0.R.V.K, .int .i64 p0.R.V.N, .string p0.R.V.S].toArray, .agg [.string p1.Op, .int .i64 p1.L.K, .string p1.L.S, .int .i64 p1.L.V.K, .int .i64 p1.L.V.N, .string p1.L.V.S, .int .i64 p1.R.K, .string p1.R.S, .int .i64 p1.R.V.K, .int .i64 p1.R.V.N, .string p1.R.V.S].toArray].toArray w (Post (.bool r) w) := by
 refine enter Tryz.func198 rfl Tryz.ntmps198 rfl (St.start0 hΦ) ?_
 unfold m_l_eqExpr at h
 refine sr ?_
 refine ln (nb rfl) rfl (fun b_1 => ?_)
 refine ln (nb rfl) rfl (fun b_2 => ?_)
 refine la rfl <| en <| sq <| sr <| lf Fld_191_0 rfl rfl rfl <| lo T1_9 1 rfl <| lf Fld_191_0 rfl rfl rfl <| lo T1_9 0 rfl <| la rfl <| en ?_
 refine cdh rfl h (fun c1 h => ?_) (fun c1 h => ?_)
 ·refine sr <| la rfl <| en ?_
  refine WT.ret Tryz.func198 (resOk.one rfl) (fun w1 hw => ?_)
  cases h
  exact post_of_St hw
 refine WT.skip <| sq <| sr <| lf Fld_191_1 rfl rfl rfl <| ld5 Tn_137 1 rfl <| lf Fld_191_1 rfl rfl rfl <| ld5 Tn_137 0 rfl ?_
 obtain ⟨x1, hx1, h⟩ := bs h
 refine lp (p_call Fun_170 rfl (fun w1 hw => m_l_eqArg_ok hw.fro N p0.L p1.L hx1)) rfl <| la rfl <| en ?_
 refine cdh rfl h (fun c2 h => ?_) (fun c2 h => ?_)
 ·refine sr <| la rfl <| en ?_
  refine WT.ret Tryz.func198 (resOk.one rfl) (fun w1 hw => ?_)
  cases h
  exact post_of_St hw
 refine WT.skip <| sq <| sr <| lf Fld_191_2 rfl rfl rfl <| ld5 Tn_137 1 rfl <| lf Fld_191_2 rfl rfl rfl <| ld5 Tn_137 0 rfl ?_
 obtain ⟨x2, hx2, h⟩ := bs h
 refine lp (p_call Fun_170 rfl (fun w1 hw => m_l_eqArg_ok hw.fro N p0.R p1.R hx2)) rfl <| la rfl <| en ?_
 refine cdh rfl h (fun c3 h => ?_) (fun c3 h => ?_)
 ·refine sr <| la rfl <| en ?_
  refine WT.ret Tryz.func198 (resOk.one rfl) (fun w1 hw => ?_)
  cases h
  exact post_of_St hw
 refine WT.skip <| sr <| la rfl <| en ?_
 refine WT.ret Tryz.func198 (resOk.one rfl) (fun w1 hw => ?_)
 cases h
 exact post_of_St hw
theorem m_l_eqExprS_ok {Φ : Hp} {w : World} (hΦ : In Φ w) (N : Nat) (p0 : (List TExpr)) (p1 : (List TExpr)) {pv0 pv1 : Value} {pG0 pG1 : List Nat} (ph0 : RSl RTExpr 11 Φ pG0 pv0 p0) (ph1 : RSl RTExpr 11 Φ pG1 pv1 p1) {r : Bool} (h : m_l_eqExprS N p0 p1 = some r) :
  Calls Tryz.prog 171 [pv0, pv1].toArray w (Post (.bool r) w) := by
 refine enter Tryz.func171 rfl Tryz.ntmps171 rfl (St.start0 hΦ) ?_
 generalize hb0 : (⟨w, [], Φ⟩ : Base) = w0
 unfold m_l_eqExprS at h
 refine sr <| la rfl <| en <| sq <| sr <| la rfl <| lq (q_lenR Sl_141 rfl rfl ph0) rfl <| la rfl <| lq (q_lenR Sl_141 rfl rfl ph1) rfl <| la rfl <| en ?_
 refine cdh rfl h (fun c1 h => ?_) (fun c1 h => ?_)
 ·refine sr <| la rfl <| en ?_
  refine WT.ret Tryz.func171 (resOk.one rfl) (fun w1 hw => ?_)
  subst hb0
  cases h
  exact post_of_St hw
 refine WT.skip <| sq <| sr <| la rfl <| en <| blk ?_
 refine loop_in (σ := Int) (fun s => [(0, pv0), (1, pv1), (5, .int .i64 s)]) (fun s => St w0 Φ [] []) (fun m s => m_l_eqExprS_l1 N p0 p1 m s = some r) (0) N h ⟨rfl, rfl, rfl, trivial⟩ (fun w1 hw => (hw.sel (js := []) rfl).selO (js := []) rfl) (fun s hm => none_ne hm) (fun n1 ih1 s hm => ?_)
 revert hm; revert s; intro s1 hm
 have h : m_l_eqExprS_l1 N p0 p1 (n1 + 1) s1 = some r := hm
 show WT _ _ [(0, pv0), (1, pv1), (5, .int .i64 s1)] (St w0 Φ [] [])
 unfold m_l_eqExprS_l1 at h
 refine sq <| sr <| la rfl <| la rfl <| lq (q_lenR Sl_141 rfl rfl ph0) rfl <| la rfl <| en ?_
 refine cdh rfl h (fun c2 h => ?_) (fun c2 h => ?_)
 ·refine WT.skip <| sq <| blk <| sq <| WT.draw mixed (by kernel_rfl) (fun _ h => h.drew) <| qq (q_move rfl) rfl <| qq (q_move rfl) rfl ?_
  obtain ⟨x1, hx1, h⟩ := bs h
  obtain ⟨cs1, F1, -, g1, hb1, hs1, r1⟩ := ph0.el (idx_some hx1).2.2
  obtain ⟨rfl, -⟩ := r1
  refine qq (q_indexAddr Sl_141 rfl rfl ph0 hx1) rfl <| qq (q_loadN Tn_191 rfl (fun w1 hw => (g1.of_eq 0 11 rfl rfl : rg _ _ _ [.string x1.Op, .int .i64 x1.L.K, .string x1.L.S, .int .i64 x1.L.V.K, .int .i64 x1.L.V.N, .string x1.L.V.S, .int .i64 x1.R.K, .string x1.R.S, .int .i64 x1.R.V.K, .int .i64 x1.R.V.N, .string x1.R.V.S]).rangeAt hw.fro) rfl) rfl <| qq (q_move rfl) rfl <| qq (q_move rfl) rfl ?_
  obtain ⟨x2, hx2, h⟩ := bs h
  obtain ⟨cs2, F2, -, g2, hb2, hs2, r2⟩ := ph1.el (idx_some hx2).2.2
  obtain ⟨rfl, -⟩ := r2
  refine qq (q_indexAddr Sl_141 rfl rfl ph1 hx2) rfl <| qq (q_loadN Tn_191 rfl (fun w1 hw => (g2.of_eq 0 11 rfl rfl : rg _ _ _ [.string x2.Op, .int .i64 x2.L.K, .string x2.L.S, .int .i64 x2.L.V.K, .int .i64 x2.L.V.N, .string x2.L.V.S, .int .i64 x2.R.K, .string x2.R.S, .int .i64 x2.R.V.K, .int .i64 x2.R.V.N, .string x2.R.V.S]).rangeAt hw.fro) rfl) rfl ?_
  obtain ⟨x3, hx3, h⟩ := bs h
  refine qp (p_call Fun_198 rfl (fun w1 hw => m_l_eqExpr_ok hw.fro N x1 x2 hx3)) rfl <| qq (q_not rfl) rfl <| WQ.nil ?_
  refine cdh rfl h (fun c3 h => ?_) (fun c3 h => ?_)
  ·refine sr <| la rfl <| en ?_
   refine WT.ret Tryz.func171 (resOk.one rfl) (fun w1 hw => ?_)
   subst hb0
   cases h
   exact post_of_St hw
  refine WT.skip <| ib <| rgn <| la rfl <| la rfl <| la rfl <| en ?_
  exact lback (ih1 (IntKind.i64.wrap (s1 + 1)) h) ⟨rfl, rfl, rfl, trivial⟩ (fun w1 hw => (hw.sel (js := []) rfl).selO (js := []) rfl)
 refine xt rfl <| sr <| la rfl <| en ?_
 refine WT.ret Tryz.func171 (resOk.one rfl) (fun w1 hw => ?_)
 subst hb0
 cases h
 exact post_of_St hw
theorem m_l_eqAct_ok {Φ : Hp} {w : World} (hΦ : In Φ w) (N : Nat) (p0 : TAct) (p1 : TAct) {pv0_0 pv1_0 : Value} {pG0_0 pG1_0 : List Nat} (ph0_0 : RSl RTExpr 11 Φ pG0_0 pv0_0 p0.Args) (ph1_0 : RSl RTExpr 11 Φ pG1_0 pv1_0 p1.Args) {r : Bool} (h : m_l_eqAct N p0 p1 = some r) :
  Calls Tryz.prog 114 [.agg [.int .i64 p0.Kind, .string p0.Name, pv0_0, .int .i64 p0.N, .string p0.Undo].toArray, .agg [.int .i64 p1.Kind, .string p1.Name, pv1_0, .int .i64 p1.N, .string p1.Undo].toArray].toArray w (Post (.bool r) w) := by
 refine enter Tryz.func114 rfl Tryz.ntmps114 rfl (St.start0 hΦ) ?_
 unfold m_l_eqAct at h
 refine sr ?_
 refine ln (nb rfl) rfl (fun b_1 => ?_)
 refine ln (nb rfl) rfl (fun b_2 => ?_)
 refine la rfl <| en <| sq <| sr <| lf Fld_143_0 rfl rfl rfl <| lo T1_3 1 rfl <| lf Fld_143_0 rfl rfl rfl <| lo T1_3 0 rfl <| la rfl <| en ?_
 refine cdh rfl h (fun c1 h => ?_) (fun c1 h => ?_)
 ·refine sr <| la rfl <| en ?_
  refine WT.ret Tryz.func114 (resOk.one rfl) (fun w1 hw => ?_)
  cases h
  exact post_of_St hw
 refine WT.skip <| sq <| sr <| lf Fld_143_1 rfl rfl rfl <| lo T1_9 1 rfl <| lf Fld_143_1 rfl rfl rfl <| lo T1_9 0 rfl <| la rfl <| en ?_
 refine cdh rfl h (fun c2 h => ?_) (fun c2 h => ?_)
 ·refine sr <| la rfl <| en ?_
  refine WT.ret Tryz.func114 (resOk.one rfl) (fun w1 hw => ?_)
  cases h
  exact post_of_St hw
 refine WT.skip <| sq <| sr <| lf Fld_143_2 rfl rfl rfl <| lo T1_141 1 rfl <| lf Fld_143_2 rfl rfl rfl <| lo T1_141 0 rfl ?_
 obtain ⟨x1, hx1, h⟩ := bs h
 refine lp (p_call Fun_171 rfl (fun w1 hw => m_l_eqExprS_ok hw.fro N p0.Args p1.Args ph0_0 ph1_0 hx1)) rfl <| la rfl <| en ?_
 refine cdh rfl h (fun c3 h => ?_) (fun c3 h => ?_)
 ·refine sr <| la rfl <| en ?_
  refine WT.ret Tryz.func114 (resOk.one rfl) (fun w1 hw => ?_)
  cases h
  exact post_of_St hw
 refine WT.skip <| sq <| sr <| lf Fld_143_3 rfl rfl rfl <| lo T1_3 1 rfl <| lf Fld_143_3 rfl rfl rfl <| lo T1_3 0 rfl <| la rfl <| en ?_
 refine cdh rfl h (fun c4 h => ?_) (fun c4 h => ?_)
 ·refine sr <| la rfl <| en ?_
  refine WT.ret Tryz.func114 (resOk.one rfl) (fun w1 hw => ?_)
  cases h
  exact post_of_St hw
 refine WT.skip <| sq <| sr <| lf Fld_143_4 rfl rfl rfl <| lo T1_9 1 rfl <| lf Fld_143_4 rfl rfl rfl <| lo T1_9 0 rfl <| la rfl <| en ?_
 refine cdh rfl h (fun c5 h => ?_) (fun c5 h => ?_)
 ·refine sr <| la rfl <| en ?_
  refine WT.ret Tryz.func114 (resOk.one rfl) (fun w1 hw => ?_)
  cases h
  exact post_of_St hw
 refine WT.skip <| sr <| la rfl <| en ?_
 refine WT.ret Tryz.func114 (resOk.one rfl) (fun w1 hw => ?_)
 cases h
 exact post_of_St hw
theorem m_l_eqActS_ok {Φ : Hp} {w : World} (hΦ : In Φ w) (N : Nat) (p0 : (List TAct)) (p1 : (List TAct)) {pv0 pv1 : Value} {pG0 pG1 : List Nat} (ph0 : RSl RTAct 5 Φ pG0 pv0 p0) (ph1 : RSl RTAct 5 Φ pG1 pv1 p1) {r : Bool} (h : m_l_eqActS N p0 p1 = some r) :
  Calls Tryz.prog 58 [pv0, pv1].toArray w (Post (.bool r) w) := by
 refine enter Tryz.func58 rfl Tryz.ntmps58 rfl (St.start0 hΦ) ?_
 generalize hb0 : (⟨w, [], Φ⟩ : Base) = w0
 unfold m_l_eqActS at h
 refine sr <| la rfl <| en <| sq <| sr <| la rfl <| lq (q_lenR Sl_38 rfl rfl ph0) rfl <| la rfl <| lq (q_lenR Sl_38 rfl rfl ph1) rfl <| la rfl <| en ?_
 refine cdh rfl h (fun c1 h => ?_) (fun c1 h => ?_)
 ·refine sr <| la rfl <| en ?_
  refine WT.ret Tryz.func58 (resOk.one rfl) (fun w1 hw => ?_)
  subst hb0
  cases h
  exact post_of_St hw
 refine WT.skip <| sq <| sr <| la rfl <| en <| blk ?_
 refine loop_in (σ := Int) (fun s => [(0, pv0), (1, pv1), (5, .int .i64 s)]) (fun s => St w0 Φ [] []) (fun m s => m_l_eqActS_l1 N p0 p1 m s = some r) (0) N h ⟨rfl, rfl, rfl, trivial⟩ (fun w1 hw => (hw.sel (js := []) rfl).selO (js := []) rfl) (fun s hm => none_ne hm) (fun n1 ih1 s hm => ?_)
 revert hm; revert s; intro s1 hm
 have h : m_l_eqActS_l1 N p0 p1 (n1 + 1) s1 = some r := hm
 show WT _ _ [(0, pv0), (1, pv1), (5, .int .i64 s1)] (St w0 Φ [] [])
 unfold m_l_eqActS_l1 at h
 refine sq <| sr <| la rfl <| la rfl <| lq (q_lenR Sl_38 rfl rfl ph0) rfl <| la rfl <| en ?_
 refine cdh rfl h (fun c2 h => ?_) (fun c2 h => ?_)
 ·refine WT.skip <| sq <| blk <| sq <| WT.draw mixed (by kernel_rfl) (fun _ h => h.drew) <| qq (q_move rfl) rfl <| qq (q_move rfl) rfl ?_
  obtain ⟨x1, hx1, h⟩ := bs h
  obtain ⟨cs1, F1, -, g1, hb1, hs1, r1⟩ := ph0.el (idx_some hx1).2.2
  obtain ⟨v1, G1, rfl, hq1, h1⟩ := r1
  obtain rfl := hq1.symm
  refine qq (q_indexAddr Sl_38 rfl rfl ph0 hx1) rfl <| qq (q_loadN Tn_143 rfl (fun w1 hw => (g1.of_eq 0 5 rfl rfl : rg _ _ _ [.int .i64 x1.Kind, .string x1.Name, v1, .int .i64 x1.N, .string x1.Undo]).rangeAt hw.fro) rfl) rfl <| qq (q_move rfl) rfl <| qq (q_move rfl) rfl ?_
  obtain ⟨x2, hx2, h⟩ := bs h
  obtain ⟨cs2, F2, -, g2, hb2, hs2, r2⟩ := ph1.el (idx_some hx2).2.2
  obtain ⟨v2, G2, rfl, hq2, h2⟩ := r2
  obtain rfl := hq2.symm
  refine qq (q_indexAddr Sl_38 rfl rfl ph1 hx2) rfl <| qq (q_loadN Tn_143 rfl (fun w1 hw => (g2.of_eq 0 5 rfl rfl : rg _ _ _ [.int .i64 x2.Kind, .string x2.Name, v2, .int .i64 x2.N, .string x2.Undo]).rangeAt hw.fro) rfl) rfl ?_
  obtain ⟨x3, hx3, h⟩ := bs h
  refine qp (p_call Fun_114 rfl (fun w1 hw => m_l_eqAct_ok hw.fro N x1 x2 h1 h2 hx3)) rfl <| qq (q_not rfl) rfl <| WQ.nil ?_
  refine cdh rfl h (fun c3 h => ?_) (fun c3 h => ?_)
  ·refine sr <| la rfl <| en ?_
   refine WT.ret Tryz.func58 (resOk.one rfl) (fun w1 hw => ?_)
   subst hb0
   cases h
   exact post_of_St hw
  refine WT.skip <| ib <| rgn <| la rfl <| la rfl <| la rfl <| en ?_
  exact lback (ih1 (IntKind.i64.wrap (s1 + 1)) h) ⟨rfl, rfl, rfl, trivial⟩ (fun w1 hw => (hw.sel (js := []) rfl).selO (js := []) rfl)
 refine xt rfl <| sr <| la rfl <| en ?_
 refine WT.ret Tryz.func58 (resOk.one rfl) (fun w1 hw => ?_)
 subst hb0
 cases h
 exact post_of_St hw
theorem m_l_eqRule_ok {Φ : Hp} {w : World} (hΦ : In Φ w) (N : Nat) (p0 : TRule) (p1 : TRule) {pv0_0 pv0_1 pv0_2 pv1_0 pv1_1 pv1_2 : Value} {pG0_0 pG0_1 pG0_2 pG1_0 pG1_1 pG1_2 : List Nat} (ph0_0 : RSl RTPat 3 Φ pG0_0 pv0_0 p0.Pats) (ph0_1 : RSl RTCond 11 Φ pG0_1 pv0_1 p0.Conds) (ph0_2 : RSl RTAct 5 Φ pG0_2 pv0_2 p0.Acts) (ph1_0 : RSl RTPat 3 Φ pG1_0 pv1_0 p1.Pats) (ph1_1 : RSl RTCond 11 Φ pG1_1 pv1_1 p1.Conds) (ph1_2 : RSl RTAct 5 Φ pG1_2 pv1_2 p1.Acts) {r : Bool} (h : m_l_eqRule N p0 p1 = some r) :
  Calls Tryz.prog 20 [.agg [.string p0.Name, .int .i64 p0.Sal, pv0_0, pv0_1, pv0_2].toArray, .agg [.string p1.Name, .int .i64 p1.Sal, pv1_0, pv1_1, pv1_2].toArray].toArray w (Post (.bool r) w) := by
 refine enter Tryz.func20 rfl Tryz.ntmps20 rfl (St.start0 hΦ) ?_
 unfold m_l_eqRule at h
 refine sr ?_
 refine ln (nb rfl) rfl (fun b_1 => ?_)
 refine ln (nb rfl) rfl (fun b_2 => ?_)
 refine la rfl <| en <| sq <| sr <| lf Fld_40_0 rfl rfl rfl <| lo T1_9 1 rfl <| lf Fld_40_0 rfl rfl rfl <| lo T1_9 0 rfl <| la rfl <| en ?_
 refine cdh rfl h (fun c1 h => ?_) (fun c1 h => ?_)
 ·refine sr <| la rfl <| en ?_
  refine WT.ret Tryz.func20 (resOk.one rfl) (fun w1 hw => ?_)
  cases h
  exact post_of_St hw
 refine WT.skip <| sq <| sr <| lf Fld_40_1 rfl rfl rfl <| lo T1_3 1 rfl <| lf Fld_40_1 rfl rfl rfl <| lo T1_3 0 rfl <| la rfl <| en ?_
 refine cdh rfl h (fun c2 h => ?_) (fun c2 h => ?_)
 ·refine sr <| la rfl <| en ?_
  refine WT.ret Tryz.func20 (resOk.one rfl) (fun w1 hw => ?_)
  cases h
  exact post_of_St hw
 refine WT.skip <| sq <| sr <| lf Fld_40_2 rfl rfl rfl <| lo T1_36 1 rfl <| lf Fld_40_2 rfl rfl rfl <| lo T1_36 0 rfl ?_
 obtain ⟨x1, hx1, h⟩ := bs h
 refine lp (p_call Fun_56 rfl (fun w1 hw => m_l_eqPatS_ok hw.fro N p0.Pats p1.Pats ph0_0 ph1_0 hx1)) rfl <| la rfl <| en ?_
 refine cdh rfl h (fun c3 h => ?_) (fun c3 h => ?_)
 ·refine sr <| la rfl <| en ?_
  refine WT.ret Tryz.func20 (resOk.one rfl) (fun w1 hw => ?_)
  cases h
  exact post_of_St hw
 refine WT.skip <| sq <| sr <| lf Fld_40_3 rfl rfl rfl <| lo T1_37 1 rfl <| lf Fld_40_3 rfl rfl rfl <| lo T1_37 0 rfl ?_
 obtain ⟨x2, hx2, h⟩ := bs h
 refine lp (p_call Fun_57 rfl (fun w1 hw => m_l_eqCondS_ok hw.fro N p0.Conds p1.Conds ph0_1 ph1_1 hx2)) rfl <| la rfl <| en ?_
 refine cdh rfl h (fun c4 h => ?_) (fun c4 h => ?_)
 ·refine sr <| la rfl <| en ?_
  refine WT.ret Tryz.func20 (resOk.one rfl) (fun w1 hw => ?_)
  cases h
  exact post_of_St hw
 refine WT.skip <| sq <| sr <| lf Fld_40_4 rfl rfl rfl <| lo T1_38 1 rfl <| lf Fld_40_4 rfl rfl rfl <| lo T1_38 0 rfl ?_
 obtain ⟨x3, hx3, h⟩ := bs h
 refine lp (p_call Fun_58 rfl (fun w1 hw => m_l_eqActS_ok hw.fro N p0.Acts p1.Acts ph0_2 ph1_2 hx3)) rfl <| la rfl <| en ?_
 refine cdh rfl h (fun c5 h => ?_) (fun c5 h => ?_)
 ·refine sr <| la rfl <| en ?_
  refine WT.ret Tryz.func20 (resOk.one rfl) (fun w1 hw => ?_)
  cases h
  exact post_of_St hw
 refine WT.skip <| sr <| la rfl <| en ?_
 refine WT.ret Tryz.func20 (resOk.one rfl) (fun w1 hw => ?_)
 cases h
 exact post_of_St hw
theorem m_l_eqRuleS_ok {Φ : Hp} {w : World} (hΦ : In Φ w) (N : Nat) (p0 : (List TRule)) (p1 : (List TRule)) {pv0 pv1 : Value} {pG0 pG1 : List Nat} (ph0 : RSl RTRule 5 Φ pG0 pv0 p0) (ph1 : RSl RTRule 5 Φ pG1 pv1 p1) {r : Bool} (h : m_l_eqRuleS N p0 p1 = some r) :
  Calls Tryz.prog 70 [pv0, pv1].toArray w (Post (.bool r) w) := by
 refine enter Tryz.func70 rfl Tryz.ntmps70 rfl (St.start0 hΦ) ?_
 generalize hb0 : (⟨w, [], Φ⟩ : Base) = w0
 unfold m_l_eqRuleS at h
 refine sr <| la rfl <| en <| sq <| sr <| la rfl <| lq (q_lenR Sl_24 rfl rfl ph0) rfl <| la rfl <| lq (q_lenR Sl_24 rfl rfl ph1) rfl <| la rfl <| en ?_
 refine cdh rfl h (fun c1 h => ?_) (fun c1 h => ?_)
 ·refine sr <| la rfl <| en ?_
  refine WT.ret Tryz.func70 (resOk.one rfl) (fun w1 hw => ?_)
  subst hb0
  cases h
  exact post_of_St hw
 refine WT.skip <| sq <| sr <| la rfl <| en <| blk ?_
 refine loop_in (σ := Int) (fun s => [(0, pv0), (1, pv1), (5, .int .i64 s)]) (fun s => St w0 Φ [] []) (fun m s => m_l_eqRuleS_l1 N p0 p1 m s = some r) (0) N h ⟨rfl, rfl, rfl, trivial⟩ (fun w1 hw => (hw.sel (js := []) rfl).selO (js := []) rfl) (fun s hm => none_ne hm) (fun n1 ih1 s hm => ?_)
 revert hm; revert s; intro s1 hm
 have h : m_l_eqRuleS_l1 N p0 p1 (n1 + 1) s1 = some r := hm
 show WT _ _ [(0, pv0), (1, pv1), (5, .int .i64 s1)] (St w0 Φ [] [])
 unfold m_l_eqRuleS_l1 at h
 refine sq <| sr <| la rfl <| la rfl <| lq (q_lenR Sl_24 rfl rfl ph0) rfl <| la rfl <| en ?_
 refine cdh rfl h (fun c2 h => ?_) (fun c2 h => ?_)
 ·refine WT.skip <| sq <| blk <| sq <| WT.draw mixed (by kernel_rfl) (fun _ h => h.drew) <| qq (q_move rfl) rfl <| qq (q_move rfl) rfl ?_
  obtain ⟨x1, hx1, h⟩ := bs h
  obtain ⟨cs1, F1, -, g1, hb1, hs1, r1⟩ := ph0.el (idx_some hx1).2.2
  obtain ⟨v1, G1, v2, G2, v3, G3, rfl, rfl, h1, h2, h3⟩ := r1
  refine qq (q_indexAddr Sl_24 rfl rfl ph0 hx1) rfl <| qq (q_loadN Tn_40 rfl (fun w1 hw => (g1.of_eq 0 5 rfl rfl : rg _ _ _ [.string x1.Name, .int .i64 x1.Sal, v1, v2, v3]).rangeAt hw.fro) rfl) rfl <| qq (q_move rfl) rfl <| qq (q_move rfl) rfl ?_
  obtain ⟨x2, hx2, h⟩ := bs h
  obtain ⟨cs2, F2, -, g2, hb2, hs2, r2⟩ := ph1.el (idx_some hx2).2.2
  obtain ⟨v4, G4, v5, G5, v6, G6, rfl, rfl, h4, h5, h6⟩ := r2
  refine qq (q_indexAddr Sl_24 rfl rfl ph1 hx2) rfl <| qq (q_loadN Tn_40 rfl (fun w1 hw => (g2.of_eq 0 5 rfl rfl : rg _ _ _ [.string x2.Name, .int .i64 x2.Sal, v4, v5, v6]).rangeAt hw.fro) rfl) rfl ?_
  obtain ⟨x3, hx3, h⟩ := bs h
  refine qp (p_call Fun_20 rfl (fun w1 hw => m_l_eqRule_ok hw.fro N x1 x2 h1 h2 h3 h4 h5 h6 hx3)) rfl <| qq (q_not rfl) rfl <| WQ.nil ?_
  refine cdh rfl h (fun c3 h => ?_) (fun c3 h => ?_)
  ·refine sr <| la rfl <| en ?_
   refine WT.ret Tryz.func70 (resOk.one rfl) (fun w1 hw => ?_)
   subst hb0
   cases h
   exact post_of_St hw
  refine WT.skip <| ib <| rgn <| la rfl <| la rfl <| la rfl <| en ?_
  exact lback (ih1 (IntKind.i64.wrap (s1 + 1)) h) ⟨rfl, rfl, rfl, trivial⟩ (fun w1 hw => (hw.sel (js := []) rfl).selO (js := []) rfl)
 refine xt rfl <| sr <| la rfl <| en ?_
 refine WT.ret Tryz.func70 (resOk.one rfl) (fun w1 hw => ?_)
 subst hb0
 cases h
 exact post_of_St hw
theorem m_l_eqDef_ok {Φ : Hp} {w : World} (hΦ : In Φ w) (N : Nat) (p0 : TDef) (p1 : TDef) {pv0_0 pv1_0 : Value} {pG0_0 pG1_0 : List Nat} (ph0_0 : RSl RTRule 5 Φ pG0_0 pv0_0 p0.Rules) (ph1_0 : RSl RTRule 5 Φ pG1_0 pv1_0 p1.Rules) {r : Bool} (h : m_l_eqDef N p0 p1 = some r) :
  Calls Tryz.prog 28 [.agg [.string p0.Name, pv0_0].toArray, .agg [.string p1.Name, pv1_0].toArray].toArray w (Post (.bool r) w) := by
 refine enter Tryz.func28 rfl Tryz.ntmps28 rfl (St.start0 hΦ) ?_
 unfold m_l_eqDef at h
 refine sr ?_
 refine ln (nb rfl) rfl (fun b_1 => ?_)
 refine ln (nb rfl) rfl (fun b_2 => ?_)
 refine la rfl <| en <| sq <| sr <| lf Fld_26_0 rfl rfl rfl <| lo T1_9 1 rfl <| lf Fld_26_0 rfl rfl rfl <| lo T1_9 0 rfl <| la rfl <| en ?_
 refine cdh rfl h (fun c1 h => ?_) (fun c1 h => ?_)
 ·refine sr <| la rfl <| en ?_
  refine WT.ret Tryz.func28 (resOk.one rfl) (fun w1 hw => ?_)
  cases h
  exact post_of_St hw
 refine WT.skip <| sq <| sr <| lf Fld_26_1 rfl rfl rfl <| lo T1_24 1 rfl <| lf Fld_26_1 rfl rfl rfl <| lo T1_24 0 rfl ?_
 obtain ⟨x1, hx1, h⟩ := bs h
 refine lp (p_call Fun_70 rfl (fun w1 hw => m_l_eqRuleS_ok hw.fro N p0.Rules p1.Rules ph0_0 ph1_0 hx1)) rfl <| la rfl <| en ?_
 refine cdh rfl h (fun c2 h => ?_) (fun c2 h => ?_)
 ·refine sr <| la rfl <| en ?_
  refine WT.ret Tryz.func28 (resOk.one rfl) (fun w1 hw => ?_)
  cases h
  exact post_of_St hw
 refine WT.skip <| sr <| la rfl <| en ?_
 refine WT.ret Tryz.func28 (resOk.one rfl) (fun w1 hw => ?_)
 cases h
 exact post_of_St hw
theorem m_l_markArgS_ok {Φ : Hp} {w : World} (hΦ : In Φ w) (N : Nat) (p0 : (List TArg)) (p1 : Int) {pv0 : Value} (ph0 : OSl RTArg 137 5 Φ [] pv0 p0) (hB : [ob pv0].flatten.Nodup) (hlt : ∀ k ∈ [ob pv0].flatten, k < w.heap.size) {r : Int × (List TArg)} (h : m_l_markArgS N p0 p1 = some r) :
  Calls Tryz.prog 117 [pv0, .int .i64 p1].toArray w (PostG Φ w [ob pv0].flatten (fun Φ' Fs v => v = .int .i64 r.1 ∧ Fs = [ob pv0] ∧ OSl RTArg 137 5 Φ' [] pv0 r.2)) := by
 refine enter Tryz.func117 rfl Tryz.ntmps117 rfl (St.start hΦ [ob pv0] hB hlt) ?_
 generalize hb0 : (⟨w, [ob pv0].flatten, Φ⟩ : Base) = w0
 unfold m_l_markArgS at h
 refine sr <| la rfl <| en <| sq <| sr <| la rfl <| en <| blk ?_
 refine loop_in (σ := Hp × (List TArg) × Int × Int) (fun s => [(0, pv0), (1, .int .i64 s.2.2.1), (5, .int .i64 s.2.2.2)]) (fun s => St w0 s.1 [] [ob pv0]) (fun m s => m_l_markArgS_l1 N m s.2.1 s.2.2.1 s.2.2.2 = some r ∧ (OSl RTArg 137 5 s.1 [] pv0 s.2.1)) (Φ, p0, p1, 0) N ⟨h, ph0⟩ ⟨rfl, rfl, rfl, trivial⟩ (fun w1 hw => (hw.sel (js := [0]) rfl).selO (js := []) rfl) (fun s hm => none_ne hm.1) (fun n1 ih1 s hm => ?_)
 obtain ⟨Φ_1, s1, s2, s3⟩ := s
 obtain ⟨h, k1⟩ := hm
 dsimp only at h k1 ⊢
 unfold m_l_markArgS_l1 at h
 refine sq <| sr <| la rfl <| la rfl <| lq (q_lenR Sl_169 rfl rfl k1.rsl) rfl <| la rfl <| en ?_
 refine cdh rfl h (fun c1 h => ?_) (fun c1 h => ?_)
 ·refine WT.skip <| sq <| blk <| sr <| la rfl <| la rfl <| la rfl ?_
  obtain ⟨x1, hx1, h⟩ := bs h
  obtain ⟨cs1, F1, h1, r1⟩ := k1.focusF RTArg.flat hx1
  obtain ⟨rfl, -⟩ := r1
  refine lq (q_indexAddrH Sl_169 rfl rfl h1 hx1) rfl <| lf Fld_137_0 rfl rfl rfl ?_
  refine lu (u_setH (js := [0]) (Rr := []) (o := 0) (vs := [.int .i64 s2]) (cs' := [.int .i64 s2, .string x1.S, .int .i64 x1.V.K, .int .i64 x1.V.N, .string x1.V.S]) RTArg.lasts Sz_3 rfl rfl rfl rfl ⟨rfl, trivial⟩ rfl h1 rfl rfl (fun ap => (Dj.nil _))) rfl (fun Φ_2 D2 q1 => ?_)
  obtain ⟨⟨ap1, fr1⟩, h2⟩ := q1
  refine en <| sr <| la rfl <| la rfl <| la rfl <| en <| sr <| la rfl <| la rfl <| la rfl ?_
  obtain ⟨x2, hx2, h⟩ := bs h
  refine lp (p_call Fun_116 rfl (fun w1 hw => m_l_markText_ok hw.fro N (IntKind.i64.wrap (s2 + 1)) hx2)) rfl <| lq (q_indexAddrH Sl_169 rfl rfl h2 hx1) rfl <| lf Fld_137_1 rfl rfl rfl ?_
  refine lu (u_setH (js := [0]) (Rr := []) (o := 1) (vs := [.string x2]) (cs' := [.int .i64 s2, .string x2, .int .i64 x1.V.K, .int .i64 x1.V.N, .string x1.V.S]) RTArg.lasts Sz_9 rfl rfl rfl rfl ⟨rfl, trivial⟩ rfl h2 rfl rfl (fun ap => (Dj.nil _))) rfl (fun Φ_3 D3 q2 => ?_)
  obtain ⟨⟨ap2, fr2⟩, h3⟩ := q2
  refine en <| sr <| la rfl <| la rfl <| la rfl <| en <| sr <| la rfl <| la rfl <| la rfl <| lq (q_indexAddrH Sl_169 rfl rfl h3 hx1) rfl <| lf Fld_137_2 rfl rfl rfl <| lf Fld_85_0 rfl rfl rfl ?_
  refine lu (u_setH (js := [0]) (Rr := []) (o := 2) (vs := [.int .i64 (IntKind.i64.wrap ((IntKind.i64.wrap (s2 + 1)) + 1))]) (cs' := [.int .i64 s2, .string x2, .int .i64 (IntKind.i64.wrap ((IntKind.i64.wrap (s2 + 1)) + 1)), .int .i64 x1.V.N, .string x1.V.S]) RTArg.lasts Sz_3 rfl rfl rfl rfl ⟨rfl, trivial⟩ rfl h3 rfl rfl (fun ap => (Dj.nil _))) rfl (fun Φ_4 D4 q3 => ?_)
  obtain ⟨⟨ap3, fr3⟩, h4⟩ := q3
  refine en <| sr <| la rfl <| la rfl <| la rfl <| en <| sr <| la rfl <| la rfl <| la rfl <| lq (q_indexAddrH Sl_169 rfl rfl h4 hx1) rfl <| lf Fld_137_2 rfl rfl rfl <| lf Fld_85_1 rfl rfl rfl ?_
  refine lu (u_setH (js := [0]) (Rr := []) (o := 3) (vs := [.int .i64 (IntKind.i64.wrap ((IntKind.i64.wrap ((IntKind.i64.wrap (s2 + 1)) + 1)) + 1))]) (cs' := [.int .i64 s2, .string x2, .int .i64 (IntKind.i64.wrap ((IntKind.i64.wrap (s2 + 1)) + 1)), .int .i64 (IntKind.i64.wrap ((IntKind.i64.wrap ((IntKind.i64.wrap (s2 + 1)) + 1)) + 1)), .string x1.V.S]) RTArg.lasts Sz_3 rfl rfl rfl rfl ⟨rfl, trivial⟩ rfl h4 rfl rfl (fun ap => (Dj.nil _))) rfl (fun Φ_5 D5 q4 => ?_)
  obtain ⟨⟨ap4, fr4⟩, h5⟩ := q4
  refine en <| sr <| la rfl <| la rfl <| la rfl <| en <| sr <| la rfl <| la rfl <| la rfl ?_
  obtain ⟨x3, hx3, h⟩ := bs h
  refine lp (p_call Fun_116 rfl (fun w1 hw => m_l_markText_ok hw.fro N (IntKind.i64.wrap ((IntKind.i64.wrap ((IntKind.i64.wrap ((IntKind.i64.wrap (s2 + 1)) + 1)) + 1)) + 1)) hx3)) rfl <| lq (q_indexAddrH Sl_169 rfl rfl h5 hx1) rfl <| lf Fld_137_2 rfl rfl rfl <| lf Fld_85_2 rfl rfl rfl ?_
  refine lu (u_setH (js := [0]) (Rr := []) (o := 4) (vs := [.string x3]) (cs' := [.int .i64 s2, .string x2, .int .i64 (IntKind.i64.wrap ((IntKind.i64.wrap (s2 + 1)) + 1)), .int .i64 (IntKind.i64.wrap ((IntKind.i64.wrap ((IntKind.i64.wrap (s2 + 1)) + 1)) + 1)), .string x3]) RTArg.lasts Sz_9 rfl rfl rfl rfl ⟨rfl, trivial⟩ rfl h5 rfl rfl (fun ap => (Dj.nil _))) rfl (fun Φ_6 D6 q5 => ?_)
  obtain ⟨⟨ap5, fr5⟩, h6⟩ := q5
  refine en <| rgn <| la rfl <| la rfl <| la rfl <| en <| ib <| rgn <| la rfl <| la rfl <| la rfl <| en ?_
  have h7 := h6.unfocusF RTArg.flat (cs := [.int .i64 s2, .string x2, .int .i64 (IntKind.i64.wrap ((IntKind.i64.wrap (s2 + 1)) + 1)), .int .i64 (IntKind.i64.wrap ((IntKind.i64.wrap ((IntKind.i64.wrap (s2 + 1)) + 1)) + 1)), .string x3]) (x' := (⟨s2, x2, (⟨IntKind.i64.wrap ((IntKind.i64.wrap (s2 + 1)) + 1), IntKind.i64.wrap ((IntKind.i64.wrap ((IntKind.i64.wrap (s2 + 1)) + 1)) + 1), x3⟩ : TVal)⟩ : TArg)) ⟨rfl, rfl⟩
  exact lback (ih1 (Φ_6, (s1.set s3.toNat (⟨s2, x2, (⟨IntKind.i64.wrap ((IntKind.i64.wrap (s2 + 1)) + 1), IntKind.i64.wrap ((IntKind.i64.wrap ((IntKind.i64.wrap (s2 + 1)) + 1)) + 1), x3⟩ : TVal)⟩ : TArg)), IntKind.i64.wrap ((IntKind.i64.wrap ((IntKind.i64.wrap ((IntKind.i64.wrap ((IntKind.i64.wrap (s2 + 1)) + 1)) + 1)) + 1)) + 1), IntKind.i64.wrap (s3 + 1)) ⟨h, h7⟩) ⟨rfl, rfl, rfl, trivial⟩ (fun w1 hw => (hw.sel (js := [0]) rfl).selO (js := []) rfl)
 refine xt rfl <| sr <| la rfl <| la rfl <| en ?_
 refine WT.ret Tryz.func117 (resOk.one rfl) (fun w1 hw => ?_)
 subst hb0
 cases h
 refine postG_of_St (js := [0]) hw rfl ⟨rfl, rfl, k1⟩
theorem m_l_markPatS_ok {Φ : Hp} {w : World} (hΦ : In Φ w) (N : Nat) (p0 : (List TPat)) (p1 : Int) {pv0 : Value} {pD0 : List Nat} (ph0 : OSl OTPat 171 3 Φ pD0 pv0 p0) (hB : [ob pv0, pD0].flatten.Nodup) (hlt : ∀ k ∈ [ob pv0, pD0].flatten, k < w.heap.size) {r : Int × (List TPat)} (h : m_l_markPatS N p0 p1 = some r) :
  Calls Tryz.prog 60 [pv0, .int .i64 p1].toArray w (PostG Φ w [ob pv0, pD0].flatten (fun Φ' Fs v => ∃ (Do_0_0 : List Nat), v = .int .i64 r.1 ∧ Fs = [ob pv0, Do_0_0] ∧ OSl OTPat 171 3 Φ' Do_0_0 pv0 r.2)) := by
 refine enter Tryz.func60 rfl Tryz.ntmps60 rfl (St.start hΦ [ob pv0, pD0] hB hlt) ?_
 generalize hb0 : (⟨w, [ob pv0, pD0].flatten, Φ⟩ : Base) = w0
 unfold m_l_markPatS at h
 refine sr <| la rfl <| en <| sq <| sr <| la rfl <| en <| blk ?_
 refine loop_in (σ := Hp × (List TPat) × List Nat × Int × Int) (fun s => [(0, pv0), (1, .int .i64 s.2.2.2.1), (5, .int .i64 s.2.2.2.2)]) (fun s => St w0 s.1 [] [ob pv0, s.2.2.1]) (fun m s => m_l_markPatS_l1 N m s.2.1 s.2.2.2.1 s.2.2.2.2 = some r ∧ (OSl OTPat 171 3 s.1 s.2.2.1 pv0 s.2.1)) (Φ, p0, pD0, p1, 0) N ⟨h, ph0⟩ ⟨rfl, rfl, rfl, trivial⟩ (fun w1 hw => (hw.sel (js := [0, 0]) rfl).selO (js := []) rfl) (fun s hm => none_ne hm.1) (fun n1 ih1 s hm => ?_)
 obtain ⟨Φ_1, s1, D1, s2, s3⟩ := s
 obtain ⟨h, k1⟩ := hm
 dsimp only at h k1 ⊢
 unfold m_l_markPatS_l1 at h
 refine sq <| sr <| la rfl <| la rfl <| lq (q_lenR Sl_36 rfl rfl (k1.rslG OTPat.gives)) rfl <| la rfl <| en ?_
 refine cdh rfl h (fun c1 h => ?_) (fun c1 h => ?_)
 ·refine WT.skip <| sq <| blk <| sr <| la rfl <| la rfl <| la rfl ?_
  obtain ⟨x1, hx1, h⟩ := bs h
  refine lp (p_call Fun_116 rfl (fun w1 hw => m_l_markText_ok hw.fro N s2 hx1)) rfl ?_
  obtain ⟨x2, hx2, h⟩ := bs h
  obtain ⟨cs1, F1, D2, h1, r1, kf1, sp1⟩ := k1.focus hx2
  obtain ⟨v1, rfl, rfl, h2⟩ := r1
  refine WL.conv (S' := St w0 Φ_1 [] [ob v1, D2, ob pv0]) (fun w1 hw => hw.re (js := [1]) (Bs := [ob v1, D2]) rfl (by simpa [List.append_assoc] using sp1)) <| lq (q_indexAddrH Sl_36 rfl rfl h1 hx2) rfl <| lf Fld_171_0 rfl rfl rfl ?_
  refine lu (u_setH (js := [2]) (Rr := [ob v1, D2]) (o := 0) (vs := [.string x1]) (cs' := [.string x1, v1, .bool x2.Not]) OTPat.lasts Sz_9 rfl rfl rfl rfl ⟨rfl, trivial⟩ rfl h1 rfl rfl (fun ap => (ap.r (i := 1) rfl))) rfl (fun Φ_2 D3 q1 => ?_)
  obtain ⟨⟨ap1, fr1⟩, h3⟩ := q1
  replace h2 := h2.frame RTArg.lasts fr1 (ap1.r (i := 0) rfl) (Dj.nil _)
  refine en <| sr <| la rfl <| la rfl <| la rfl <| en <| sr <| la rfl <| la rfl <| lq (q_indexAddrH Sl_36 rfl rfl h3 hx2) rfl <| lf Fld_171_1 rfl rfl rfl <| lg 1 T1_169 h3.rg rfl rfl <| la rfl ?_
  obtain ⟨x3, hx3, h⟩ := bs h
  refine lc (k_call (js := [1]) (R := [ob pv0, D2]) Fun_117 rfl rfl (fun w1 hw ap hl => m_l_markArgS_ok hw.fro N x2.Args (IntKind.i64.wrap (s2 + 1)) h2 ap.nd hl hx3)) rfl (fun v2 Φ_3 F2 q2 => ?_)
  obtain ⟨ap2, fr2, rfl, rfl, h4⟩ := q2
  replace h3 := h3.frame OTPat.lasts fr2 (ap2.r (i := 0) rfl) (ap2.r (i := 1) rfl)
  refine la rfl <| en <| sr <| la rfl <| la rfl <| la rfl <| lq (q_rem rfl rfl (by decide)) rfl <| la rfl <| lq (q_indexAddrH Sl_36 rfl rfl h3 hx2) rfl <| lf Fld_171_2 rfl rfl rfl ?_
  refine lu (u_setH (js := [1]) (Rr := [ob v1, D2]) (o := 2) (vs := [.bool (decide ((x3.1.tmod 3) = 0))]) (cs' := [.string x1, v1, .bool (decide ((x3.1.tmod 3) = 0))]) OTPat.lasts Sz_4 rfl rfl rfl rfl ⟨rfl, trivial⟩ rfl h3 rfl rfl (fun ap => (ap.r (i := 1) rfl))) rfl (fun Φ_4 D4 q3 => ?_)
  obtain ⟨⟨ap3, fr3⟩, h5⟩ := q3
  replace h4 := h4.frame RTArg.lasts fr3 (ap3.r (i := 0) rfl) (Dj.nil _)
  refine en <| rgn <| la rfl <| la rfl <| la rfl <| en <| ib <| rgn <| la rfl <| la rfl <| la rfl <| en ?_
  have r2 : OTPat Φ_4 _ [.string x1, v1, .bool (decide ((x3.1.tmod 3) = 0))] (⟨x1, x3.2, decide ((x3.1.tmod 3) = 0)⟩ : TPat) := ⟨v1, rfl, rfl, h4⟩
  obtain ⟨D5, h6, sp2⟩ := h5.unfocus r2 (OTPat.knows _ _ _ _ r2)
  refine WT.conv (S' := St w0 Φ_4 [] [D5, ob pv0]) (fun w1 hw => hw.merge (js := [1, 1]) rfl (by simpa [List.append_assoc, ob_nil] using sp2)) ?_
  exact lback (ih1 (Φ_4, (s1.set s3.toNat (⟨x1, x3.2, decide ((x3.1.tmod 3) = 0)⟩ : TPat)), D5, IntKind.i64.wrap (x3.1 + 1), IntKind.i64.wrap (s3 + 1)) ⟨h, h6⟩) ⟨rfl, rfl, rfl, trivial⟩ (fun w1 hw => (hw.sel (js := [1, 0]) rfl).selO (js := []) rfl)
 refine xt rfl <| sr <| la rfl <| la rfl <| en ?_
 refine WT.ret Tryz.func60 (resOk.one rfl) (fun w1 hw => ?_)
 subst hb0
 cases h
 refine postG_of_St (js := [0, 0]) hw rfl ⟨D1, rfl, rfl, k1⟩
theorem m_l_markCondS_ok {Φ : Hp} {w : World} (hΦ : In Φ w) (N : Nat) (p0 : (List TCond)) (p1 : Int) {pv0 : Value} (ph0 : OSl RTCond 139 11 Φ [] pv0 p0) (hB : [ob pv0].flatten.Nodup) (hlt : ∀ k ∈ [ob pv0].flatten, k < w.heap.size) {r : Int × (List TCond)} (h : m_l_markCondS N p0 p1 = some r) :
  Calls Tryz.prog 61 [pv0, .int .i64 p1].toArray w (PostG Φ w [ob pv0].flatten (fun Φ' Fs v => v = .int .i64 r.1 ∧ Fs = [ob pv0] ∧ OSl RTCond 139 11 Φ' [] pv0 r.2)) := by
 refine enter Tryz.func61 rfl Tryz.ntmps61 rfl (St.start hΦ [ob pv0] hB hlt) ?_
 generalize hb0 : (⟨w, [ob pv0].flatten, Φ⟩ : Base) = w0
 unfold m_l_markCondS at h
 refine sr <| la rfl <| en <| sq <| sr <| la rfl <| en <| blk ?_
 refine loop_in (σ := Hp × (List TCond) × Int × Int) (fun s => [(0, pv0), (1, .int .i64 s.2.2.1), (5, .int .i64 s.2.2.2)]) (fun s => St w0 s.1 [] [ob pv0]) (fun m s => m_l_markCondS_l1 N m s.2.1 s.2.2.1 s.2.2.2 = some r ∧ (OSl RTCond 139 11 s.1 [] pv0 s.2.1)) (Φ, p0, p1, 0) N ⟨h, ph0⟩ ⟨rfl, rfl, rfl, trivial⟩ (fun w1 hw => (hw.sel (js := [0]) rfl).selO (js := []) rfl) (fun s hm => none_ne hm.1) (fun n1 ih1 s hm => ?_)
 obtain ⟨Φ_1, s1, s2, s3⟩ := s
 obtain ⟨h, k1⟩ := hm
 dsimp only at h k1 ⊢
 unfold m_l_markCondS_l1 at h
 refine sq <| sr <| la rfl <| la rfl <| lq (q_lenR Sl_37 rfl rfl k1.rsl) rfl <| la rfl <| en ?_
 refine cdh rfl h (fun c1 h => ?_) (fun c1 h => ?_)
 ·refine WT.skip <| sq <| blk <| sr <| la rfl <| la rfl <| la rfl ?_
  obtain ⟨x1, hx1, h⟩ := bs h
  obtain ⟨cs1, F1, h1, r1⟩ := k1.focusF RTCond.flat hx1
  obtain ⟨rfl, -⟩ := r1
  refine lq (q_indexAddrH Sl_37 rfl rfl h1 hx1) rfl <| lf Fld_139_0 rfl rfl rfl ?_
  refine lu (u_setH (js := [0]) (Rr := []) (o := 0) (vs := [.int .i64 s2]) (cs' := [.int .i64 s2, .int .i64 x1.L.K, .string x1.L.S, .int .i64 x1.L.V.K, .int .i64 x1.L.V.N, .string x1.L.V.S, .int .i64 x1.R.K, .string x1.R.S, .int .i64 x1.R.V.K, .int .i64 x1.R.V.N, .string x1.R.V.S]) RTCond.lasts Sz_3 rfl rfl rfl rfl ⟨rfl, trivial⟩ rfl h1 rfl rfl (fun ap => (Dj.nil _))) rfl (fun Φ_2 D2 q1 => ?_)
  obtain ⟨⟨ap1, fr1⟩, h2⟩ := q1
  refine en <| sr <| la rfl <| la rfl <| la rfl <| en <| sr <| la rfl <| la rfl <| la rfl <| lq (q_indexAddrH Sl_37 rfl rfl h2 hx1) rfl <| lf Fld_139_1 rfl rfl rfl <| lf Fld_137_0 rfl rfl rfl ?_
  refine lu (u_setH (js := [0]) (Rr := []) (o := 1) (vs := [.int .i64 (IntKind.i64.wrap (s2 + 1))]) (cs' := [.int .i64 s2, .int .i64 (IntKind.i64.wrap (s2 + 1)), .string x1.L.S, .int .i64 x1.L.V.K, .int .i64 x1.L.V.N, .string x1.L.V.S, .int .i64 x1.R.K, .string x1.R.S, .int .i64 x1.R.V.K, .int .i64 x1.R.V.N, .string x1.R.V.S]) RTCond.lasts Sz_3 rfl rfl rfl rfl ⟨rfl, trivial⟩ rfl h2 rfl rfl (fun ap => (Dj.nil _))) rfl (fun Φ_3 D3 q2 => ?_)
  obtain ⟨⟨ap2, fr2⟩, h3⟩ := q2
  refine en <| sr <| la rfl <| la rfl <| la rfl <| en <| sr <| la rfl <| la rfl <| la rfl ?_
  obtain ⟨x2, hx2, h⟩ := bs h
  refine lp (p_call Fun_116 rfl (fun w1 hw => m_l_markText_ok hw.fro N (IntKind.i64.wrap ((IntKind.i64.wrap (s2 + 1)) + 1)) hx2)) rfl <| lq (q_indexAddrH Sl_37 rfl rfl h3 hx1) rfl <| lf Fld_139_1 rfl rfl rfl <| lf Fld_137_1 rfl rfl rfl ?_
  refine lu (u_setH (js := [0]) (Rr := []) (o := 2) (vs := [.string x2]) (cs' := [.int .i64 s2, .int .i64 (IntKind.i64.wrap (s2 + 1)), .string x2, .int .i64 x1.L.V.K, .int .i64 x1.L.V.N, .string x1.L.V.S, .int .i64 x1.R.K, .string x1.R.S, .int .i64 x1.R.V.K, .int .i64 x1.R.V.N, .string x1.R.V.S]) RTCond.lasts Sz_9 rfl rfl rfl rfl ⟨rfl, trivial⟩ rfl h3 rfl rfl (fun ap => (Dj.nil _))) rfl (fun Φ_4 D4 q3 => ?_)
  obtain ⟨⟨ap3, fr3⟩, h4⟩ := q3
  refine en <| sr <| la rfl <| la rfl <| la rfl <| en <| sr <| la rfl <| la rfl <| la rfl <| lq (q_indexAddrH Sl_37 rfl rfl h4 hx1) rfl <| lf Fld_139_1 rfl rfl rfl <| lf Fld_137_2 rfl rfl rfl <| lf Fld_85_0 rfl rfl rfl ?_
  refine lu (u_setH (js := [0]) (Rr := []) (o := 3) (vs := [.int .i64 (IntKind.i64.wrap ((IntKind.i64.wrap ((IntKind.i64.wrap (s2 + 1)) + 1)) + 1))]) (cs' := [.int .i64 s2, .int .i64 (IntKind.i64.wrap (s2 + 1)), .string x2, .int .i64 (IntKind.i64.wrap ((IntKind.i64.wrap ((IntKind.i64.wrap (s2 + 1)) + 1)) + 1)), .int .i64 x1.L.V.N, .string x1.L.V.S, .int .i64 x1.R.K, .string x1.R.S, .int .i64 x1.R.V.K, .int .i64 x1.R.V.N, .string x1.R.V.S]) RTCond.lasts Sz_3 rfl rfl rfl rfl ⟨rfl, trivial⟩ rfl h4 rfl rfl (fun ap => (Dj.nil _))) rfl (fun Φ_5 D5 q4 => ?_)
  obtain ⟨⟨ap4, fr4⟩, h5⟩ := q4
  refine en <| sr <| la rfl <| la rfl <| la rfl <| en <| sr <| la rfl <| la rfl <| la rfl <| lq (q_indexAddrH Sl_37 rfl rfl h5 hx1) rfl <| lf Fld_139_1 rfl rfl rfl <| lf Fld_137_2 rfl rfl rfl <| lf Fld_85_1 rfl rfl rfl ?_
  refine lu (u_setH (js := [0]) (Rr := []) (o := 4) (vs := [.int .i64 (IntKind.i64.wrap ((IntKind.i64.wrap ((IntKind.i64.wrap ((IntKind.i64.wrap (s2 + 1)) + 1)) + 1)) + 1))]) (cs' := [.int .i64 s2, .int .i64 (IntKind.i64.wrap (s2 + 1)), .string x2, .int .i64 (IntKind.i64.wrap ((IntKind.i64.wrap ((IntKind.i64.wrap (s2 + 1)) + 1)) + 1)), .int .i64 (IntKind.i64.wrap ((IntKind.i64.wrap ((IntKind.i64.wrap ((IntKind.i64.wrap (s2 + 1)) + 1)) + 1)) + 1)), .string x1.L.V.S, .int .i64 x1.R.K, .string x1.R.S, .int .i64 x1.R.V.K, .int .i64 x1.R.V.N, .string x1.R.V.S]) RTCond.lasts Sz_3 rfl rfl rfl rfl ⟨rfl, trivial⟩ rfl h5 rfl rfl (fun ap => (Dj.nil _))) rfl (fun Φ_6 D6 q5 => ?_)
  obtain ⟨⟨ap5, fr5⟩, h6⟩ := q5
  refine en <| sr <| la rfl <| la rfl <| la rfl <| en <| sr <| la rfl <| la rfl <| la rfl ?_
  obtain ⟨x3, hx3, h⟩ := bs h
  refine lp (p_call Fun_116 rfl (fun w1 hw => m_l_markText_ok hw.fro N (IntKind.i64.wrap ((IntKind.i64.wrap ((IntKind.i64.wrap ((IntKind.i64.wrap ((IntKind.i64.wrap (s2 + 1)) + 1)) + 1)) + 1)) + 1)) hx3)) rfl <| lq (q_indexAddrH Sl_37 rfl rfl h6 hx1) rfl <| lf Fld_139_1 rfl rfl rfl <| lf Fld_137_2 rfl rfl rfl <| lf Fld_85_2 rfl rfl rfl ?_
  refine lu (u_setH (js := [0]) (Rr := []) (o := 5) (vs := [.string x3]) (cs' := [.int .i64 s2, .int .i64 (IntKind.i64.wrap (s2 + 1)), .string x2, .int .i64 (IntKind.i64.wrap ((IntKind.i64.wrap ((IntKind.i64.wrap (s2 + 1)) + 1)) + 1)), .int .i64 (IntKind.i64.wrap ((IntKind.i64.wrap ((IntKind.i64.wrap ((IntKind.i64.wrap (s2 + 1)) + 1)) + 1)) + 1)), .string x3, .int .i64 x1.R.K, .string x1.R.S, .int .i64 x1.R.V.K, .int .i64 x1.R.V.N, .string x1.R.V.S]) RTCond.lasts Sz_9 rfl rfl rfl rfl ⟨rfl, trivial⟩ rfl h6 rfl rfl (fun ap => (Dj.nil _))) rfl (fun Φ_7 D7 q6 => ?_)
  obtain ⟨⟨ap6, fr6⟩, h7⟩ := q6
  refine en <| sr <| la rfl <| la rfl <| la rfl <| en <| sr <| la rfl <| la rfl <| la rfl <| lq (q_indexAddrH Sl_37 rfl rfl h7 hx1) rfl <| lf Fld_139_2 rfl rfl rfl <| lf Fld_137_0 rfl rfl rfl ?_
  refine lu (u_setH (js := [0]) (Rr := []) (o := 6) (vs := [.int .i64 (IntKind.i64.wrap ((IntKind.i64.wrap ((IntKind.i64.wrap ((IntKind.i64.wrap ((IntKind.i64.wrap ((IntKind.i64.wrap (s2 + 1)) + 1)) + 1)) + 1)) + 1)) + 1))]) (cs' := [.int .i64 s2, .int .i64 (IntKind.i64.wrap (s2 + 1)), .string x2, .int .i64 (IntKind.i64.wrap ((IntKind.i64.wrap ((IntKind.i64.wrap (s2 + 1)) + 1)) + 1)), .int .i64 (IntKind.i64.wrap ((IntKind.i64.wrap ((IntKind.i64.wrap ((IntKind.i64.wrap (s2 + 1)) + 1)) + 1)) + 1)), .string x3, .int .i64 (IntKind.i64.wrap ((IntKind.i64.wrap ((IntKind.i64.wrap ((IntKind.i64.wrap ((IntKind.i64.wrap ((IntKind.i64.wrap (s2 + 1)) + 1)) + 1)) + 1)) + 1)) + 1)), .string x1.R.S, .int .i64 x1.R.V.K, .int .i64 x1.R.V.N, .string x1.R.V.S]) RTCond.lasts Sz_3 rfl rfl rfl rfl ⟨rfl, trivial⟩ rfl h7 rfl rfl (fun ap => (Dj.nil _))) rfl (fun Φ_8 D8 q7 => ?_)
  obtain ⟨⟨ap7, fr7⟩, h8⟩ := q7
  refine en <| sr <| la rfl <| la rfl <| la rfl <| en <| sr <| la rfl <| la rfl <| la rfl ?_
  obtain ⟨x4, hx4, h⟩ := bs h
  refine lp (p_call Fun_116 rfl (fun w1 hw => m_l_markText_ok hw.fro N (IntKind.i64.wrap ((IntKind.i64.wrap ((IntKind.i64.wrap ((IntKind.i64.wrap ((IntKind.i64.wrap ((IntKind.i64.wrap ((IntKind.i64.wrap (s2 + 1)) + 1)) + 1)) + 1)) + 1)) + 1)) + 1)) hx4)) rfl <| lq (q_indexAddrH Sl_37 rfl rfl h8 hx1) rfl <| lf Fld_139_2 rfl rfl rfl <| lf Fld_137_1 rfl rfl rfl ?_
  refine lu (u_setH (js := [0]) (Rr := []) (o := 7) (vs := [.string x4]) (cs' := [.int .i64 s2, .int .i64 (IntKind.i64.wrap (s2 + 1)), .string x2, .int .i64 (IntKind.i64.wrap ((IntKind.i64.wrap ((IntKind.i64.wrap (s2 + 1)) + 1)) + 1)), .int .i64 (IntKind.i64.wrap ((IntKind.i64.wrap ((IntKind.i64.wrap ((IntKind.i64.wrap (s2 + 1)) + 1)) + 1)) + 1)), .string x3, .int .i64 (IntKind.i64.wrap ((IntKind.i64.wrap ((IntKind.i64.wrap ((IntKind.i64.wrap ((IntKind.i64.wrap ((IntKind.i64.wrap (s2 + 1)) + 1)) + 1)) + 1)) + 1)) + 1)), .string x4, .int .i64 x1.R.V.K, .int .i64 x1.R.V.N, .string x1.R.V.S]) RTCond.lasts Sz_9 rfl rfl rfl rfl ⟨rfl, trivial⟩ rfl h8 rfl rfl (fun ap => (Dj.nil _))) rfl (fun Φ_9 D9 q8 => ?_)
  obtain ⟨⟨ap8, fr8⟩, h9⟩ := q8
  refine en <| sr <| la rfl <| la rfl <| la rfl <| en <| sr <| la rfl <| la rfl <| la rfl <| lq (q_indexAddrH Sl_37 rfl rfl h9 hx1) rfl <| lf Fld_139_2 rfl rfl rfl <| lf Fld_137_2 rfl rfl rfl <| lf Fld_85_0 rfl rfl rfl ?_
  refine lu (u_setH (js := [0]) (Rr := []) (o := 8) (vs := [.int .i64 (IntKind.i64.wrap ((IntKind.i64.wrap ((IntKind.i64.wrap ((IntKind.i64.wrap ((IntKind.i64.wrap ((IntKind.i64.wrap ((IntKind.i64.wrap ((IntKind.i64.wrap (s2 + 1)) + 1)) + 1)) + 1)) + 1)) + 1)) + 1)) + 1))]) (cs' := [.int .i64 s2, .int .i64 (IntKind.i64.wrap (s2 + 1)), .string x2, .int .i64 (IntKind.i64.wrap ((IntKind.i64.wrap ((IntKind.i64.wrap (s2 + 1)) + 1)) + 1)), .int .i64 (IntKind.i64.wrap ((IntKind.i64.wrap ((IntKind.i64.wrap ((IntKind.i64.wrap (s2 + 1)) + 1)) + 1)) + 1)), .string x3, .int .i64 (IntKind.i64.wrap ((IntKind.i64.wrap ((IntKind.i64.wrap ((IntKind.i64.wrap ((IntKind.i64.wrap ((IntKind.i64.wrap (s2 + 1)) + 1)) + 1)) + 1)) + 1)) + 1)), .string x4, .int .i64 (IntKind.i64.wrap ((IntKind.i64.wrap ((IntKind.i64.wrap ((IntKind.i64.wrap ((IntKind.i64.wrap ((IntKind.i64.wrap ((IntKind.i64.wrap ((IntKind.i64.wrap (s2 + 1)) + 1)) + 1)) + 1)) + 1)) + 1)) + 1)) + 1)), .int .i64 x1.R.V.N, .string x1.R.V.S]) RTCond.lasts Sz_3 rfl rfl rfl rfl ⟨rfl, trivial⟩ rfl h9 rfl rfl (fun ap => (Dj.nil _))) rfl (fun Φ_10 D10 q9 => ?_)
  obtain ⟨⟨ap9, fr9⟩, h10⟩ := q9
  refine en <| sr <| la rfl <| la rfl <| la rfl <| en <| sr <| la rfl <| la rfl <| la rfl <| lq (q_indexAddrH Sl_37 rfl rfl h10 hx1) rfl <| lf Fld_139_2 rfl rfl rfl <| lf Fld_137_2 rfl rfl rfl <| lf Fld_85_1 rfl rfl rfl ?_
  refine lu (u_setH (js := [0]) (Rr := []) (o := 9) (vs := [.int .i64 (IntKind.i64.wrap ((IntKind.i64.wrap ((IntKind.i64.wrap ((IntKind.i64.wrap ((IntKind.i64.wrap ((IntKind.i64.wrap ((IntKind.i64.wrap ((IntKind.i64.wrap ((IntKind.i64.wrap (s2 + 1)) + 1)) + 1)) + 1)) + 1)) + 1)) + 1)) + 1)) + 1))]) (cs' := [.int .i64 s2, .int .i64 (IntKind.i64.wrap (s2 + 1)), .string x2, .int .i64 (IntKind.i64.wrap ((IntKind.i64.wrap ((IntKind.i64.wrap (s2 + 1)) + 1)) + 1)), .int .i64 (IntKind.i64.wrap ((IntKind.i64.wrap ((IntKind.i64.wrap ((IntKind.i64.wrap (s2 + 1)) + 1)) + 1)) + 1)), .string x3, .int .i64 (IntKind.i64.wrap ((IntKind.i64.wrap ((IntKind.i64.wrap ((IntKind.i64.wrap ((IntKind.i64.wrap ((IntKind.i64.wrap (s2 + 1)) + 1)) + 1)) + 1)) + 1)) + 1)), .string x4, .int .i64 (IntKind.i64.wrap ((IntKind.i64.wrap ((IntKind.i64.wrap ((IntKind.i64.wrap ((IntKind.i64.wrap ((IntKind.i64.wrap ((IntKind.i64.wrap ((IntKind.i64.wrap (s2 + 1)) + 1)) + 1)) + 1)) + 1)) + 1)) + 1)) + 1)), .int .i64 (IntKind.i64.wrap ((IntKind.i64.wrap ((IntKind.i64.wrap ((IntKind.i64.wrap ((IntKind.i64.wrap ((IntKind.i64.wrap ((IntKind.i64.wrap ((IntKind.i64.wrap ((IntKind.i64.wrap (s2 + 1)) + 1)) + 1)) + 1)) + 1)) + 1)) + 1)) + 1)) + 1)), .string x1.R.V.S]) RTCond.lasts Sz_3 rfl rfl rfl rfl ⟨rfl, trivial⟩ rfl h10 rfl rfl (fun ap => (Dj.nil _))) rfl (fun Φ_11 D11 q10 => ?_)
  obtain ⟨⟨ap10, fr10⟩, h11⟩ := q10
  refine en <| sr <| la rfl <| la rfl <| la rfl <| en <| sr <| la rfl <| la rfl <| la rfl ?_
  obtain ⟨x5, hx5, h⟩ := bs h
  refine lp (p_call Fun_116 rfl (fun w1 hw => m_l_markText_ok hw.fro N (IntKind.i64.wrap ((IntKind.i64.wrap ((IntKind.i64.wrap ((IntKind.i64.wrap ((IntKind.i64.wrap ((IntKind.i64.wrap ((IntKind.i64.wrap ((IntKind.i64.wrap ((IntKind.i64.wrap ((IntKind.i64.wrap (s2 + 1)) + 1)) + 1)) + 1)) + 1)) + 1)) + 1)) + 1)) + 1)) + 1)) hx5)) rfl <| lq (q_indexAddrH Sl_37 rfl rfl h11 hx1) rfl <| lf Fld_139_2 rfl rfl rfl <| lf Fld_137_2 rfl rfl rfl ?_
  refine lf Fld_85_2 rfl rfl rfl ?_
  refine lu (u_setH (js := [0]) (Rr := []) (o := 10) (vs := [.string x5]) (cs' := [.int .i64 s2, .int .i64 (IntKind.i64.wrap (s2 + 1)), .string x2, .int .i64 (IntKind.i64.wrap ((IntKind.i64.wrap ((IntKind.i64.wrap (s2 + 1)) + 1)) + 1)), .int .i64 (IntKind.i64.wrap ((IntKind.i64.wrap ((IntKind.i64.wrap ((IntKind.i64.wrap (s2 + 1)) + 1)) + 1)) + 1)), .string x3, .int .i64 (IntKind.i64.wrap ((IntKind.i64.wrap ((IntKind.i64.wrap ((IntKind.i64.wrap ((IntKind.i64.wrap ((IntKind.i64.wrap (s2 + 1)) + 1)) + 1)) + 1)) + 1)) + 1)), .string x4, .int .i64 (IntKind.i64.wrap ((IntKind.i64.wrap ((IntKind.i64.wrap ((IntKind.i64.wrap ((IntKind.i64.wrap ((IntKind.i64.wrap ((IntKind.i64.wrap ((IntKind.i64.wrap (s2 + 1)) + 1)) + 1)) + 1)) + 1)) + 1)) + 1)) + 1)), .int .i64 (IntKind.i64.wrap ((IntKind.i64.wrap ((IntKind.i64.wrap ((IntKind.i64.wrap ((IntKind.i64.wrap ((IntKind.i64.wrap ((IntKind.i64.wrap ((IntKind.i64.wrap ((IntKind.i64.wrap (s2 + 1)) + 1)) + 1)) + 1)) + 1)) + 1)) + 1)) + 1)) + 1)), .string x5]) RTCond.lasts Sz_9 rfl rfl rfl rfl ⟨rfl, trivial⟩ rfl h11 rfl rfl (fun ap => (Dj.nil _))) rfl (fun Φ_12 D12 q11 => ?_)
  obtain ⟨⟨ap11, fr11⟩, h12⟩ := q11
  refine en <| rgn <| la rfl <| la rfl <| la rfl <| en <| ib <| rgn <| la rfl <| la rfl <| la rfl <| en ?_
  have h13 := h12.unfocusF RTCond.flat (cs := [.int .i64 s2, .int .i64 (IntKind.i64.wrap (s2 + 1)), .string x2, .int .i64 (IntKind.i64.wrap ((IntKind.i64.wrap ((IntKind.i64.wrap (s2 + 1)) + 1)) + 1)), .int .i64 (IntKind.i64.wrap ((IntKind.i64.wrap ((IntKind.i64.wrap ((IntKind.i64.wrap (s2 + 1)) + 1)) + 1)) + 1)), .string x3, .int .i64 (IntKind.i64.wrap ((IntKind.i64.wrap ((IntKind.i64.wrap ((IntKind.i64.wrap ((IntKind.i64.wrap ((IntKind.i64.wrap (s2 + 1)) + 1)) + 1)) + 1)) + 1)) + 1)), .string x4, .int .i64 (IntKind.i64.wrap ((IntKind.i64.wrap ((IntKind.i64.wrap ((IntKind.i64.wrap ((IntKind.i64.wrap ((IntKind.i64.wrap ((IntKind.i64.wrap ((IntKind.i64.wrap (s2 + 1)) + 1)) + 1)) + 1)) + 1)) + 1)) + 1)) + 1)), .int .i64 (IntKind.i64.wrap ((IntKind.i64.wrap ((IntKind.i64.wrap ((IntKind.i64.wrap ((IntKind.i64.wrap ((IntKind.i64.wrap ((IntKind.i64.wrap ((IntKind.i64.wrap ((IntKind.i64.wrap (s2 + 1)) + 1)) + 1)) + 1)) + 1)) + 1)) + 1)) + 1)) + 1)), .string x5]) (x' := (⟨s2, (⟨IntKind.i64.wrap (s2 + 1), x2, (⟨IntKind.i64.wrap ((IntKind.i64.wrap ((IntKind.i64.wrap (s2 + 1)) + 1)) + 1), IntKind.i64.wrap ((IntKind.i64.wrap ((IntKind.i64.wrap ((IntKind.i64.wrap (s2 + 1)) + 1)) + 1)) + 1), x3⟩ : TVal)⟩ : TArg), (⟨IntKind.i64.wrap ((IntKind.i64.wrap ((IntKind.i64.wrap ((IntKind.i64.wrap ((IntKind.i64.wrap ((IntKind.i64.wrap (s2 + 1)) + 1)) + 1)) + 1)) + 1)) + 1), x4, (⟨IntKind.i64.wrap ((IntKind.i64.wrap ((IntKind.i64.wrap ((IntKind.i64.wrap ((IntKind.i64.wrap ((IntKind.i64.wrap ((IntKind.i64.wrap ((IntKind.i64.wrap (s2 + 1)) + 1)) + 1)) + 1)) + 1)) + 1)) + 1)) + 1), IntKind.i64.wrap ((IntKind.i64.wrap ((IntKind.i64.wrap ((IntKind.i64.wrap ((IntKind.i64.wrap ((IntKind.i64.wrap ((IntKind.i64.wrap ((IntKind.i64.wrap ((IntKind.i64.wrap (s2 + 1)) + 1)) + 1)) + 1)) + 1)) + 1)) + 1)) + 1)) + 1), x5⟩ : TVal)⟩ : TArg)⟩ : TCond)) ⟨rfl, rfl⟩
  exact lback (ih1 (Φ_12, (s1.set s3.toNat (⟨s2, (⟨IntKind.i64.wrap (s2 + 1), x2, (⟨IntKind.i64.wrap ((IntKind.i64.wrap ((IntKind.i64.wrap (s2 + 1)) + 1)) + 1), IntKind.i64.wrap ((IntKind.i64.wrap ((IntKind.i64.wrap ((IntKind.i64.wrap (s2 + 1)) + 1)) + 1)) + 1), x3⟩ : TVal)⟩ : TArg), (⟨IntKind.i64.wrap ((IntKind.i64.wrap ((IntKind.i64.wrap ((IntKind.i64.wrap ((IntKind.i64.wrap ((IntKind.i64.wrap (s2 + 1)) + 1)) + 1)) + 1)) + 1)) + 1), x4, (⟨IntKind.i64.wrap ((IntKind.i64.wrap ((IntKind.i64.wrap ((IntKind.i64.wrap ((IntKind.i64.wrap ((IntKind.i64.wrap ((IntKind.i64.wrap ((IntKind.i64.wrap (s2 + 1)) + 1)) + 1)) + 1)) + 1)) + 1)) + 1)) + 1), IntKind.i64.wrap ((IntKind.i64.wrap ((IntKind.i64.wrap ((IntKind.i64.wrap ((IntKind.i64.wrap ((IntKind.i64.wrap ((IntKind.i64.wrap ((IntKind.i64.wrap ((IntKind.i64.wrap (s2 + 1)) + 1)) + 1)) + 1)) + 1)) + 1)) + 1)) + 1)) + 1), x5⟩ : TVal)⟩ : TArg)⟩ : TCond)), IntKind.i64.wrap ((IntKind.i64.wrap ((IntKind.i64.wrap ((IntKind.i64.wrap ((IntKind.i64.wrap ((IntKind.i64.wrap ((IntKind.i64.wrap ((IntKind.i64.wrap ((IntKind.i64.wrap ((IntKind.i64.wrap ((IntKind.i64.wrap (s2 + 1)) + 1)) + 1)) + 1)) + 1)) + 1)) + 1)) + 1)) + 1)) + 1)) + 1), IntKind.i64.wrap (s3 + 1)) ⟨h, h13⟩) ⟨rfl, rfl, rfl, trivial⟩ (fun w1 hw => (hw.sel (js := [0]) rfl).selO (js := []) rfl)
 refine xt rfl <| sr <| la rfl <| la rfl <| en ?_
 refine WT.ret Tryz.func61 (resOk.one rfl) (fun w1 hw => ?_)
 subst hb0
 cases h
 refine postG_of_St (js := [0]) hw rfl ⟨rfl, rfl, k1⟩
end Go.Proofs.YtelchcokfcdndaaGreat
