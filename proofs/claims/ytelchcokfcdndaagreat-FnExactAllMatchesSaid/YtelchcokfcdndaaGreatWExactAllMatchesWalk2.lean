/- Printed by a program of ours: each Go function computes its Lean function. -/
import Derived.Test.YtelchcokfcdndaaGreatProg
import Derived.Test.YtelchcokfcdndaaGreatWExactAllMatchesWalk1
namespace Go.Proofs.YtelchcokfcdndaaGreat
open Eng
open Go.RowKit (Below)
set_option linter.unusedVariables false
set_option linter.unusedSimpArgs false

set_option maxRecDepth 100000
set_option maxHeartbeats 1000000
theorem m_i_StoreOk_ok {Φ : Hp} {w : World} (hΦ : In Φ w) (N : Nat) (p0 : TStore) {pv0_0 : Value} {pG0_0 : List Nat} (ph0_0 : RSl RTItem 3 Φ pG0_0 pv0_0 p0.Items) {r : Bool} (h : m_i_StoreOk N p0 = some r) :
  Calls Tryz.prog 36 [.agg [pv0_0, .int .i64 p0.Next].toArray].toArray w (Post (.bool r) w) := by
 refine enter Tryz.func36 rfl Tryz.ntmps36 rfl (St.start0 hΦ) ?_
 generalize hb0 : (⟨w, [], Φ⟩ : Base) = w0
 unfold m_i_StoreOk at h
 refine sr ?_
 refine ln (nb rfl) rfl (fun b_1 => ?_)
 refine la rfl <| en <| sq <| sr <| lf Fld_29_0 rfl rfl rfl <| lo T1_27 0 rfl <| lq (q_lenR Sl_27 rfl rfl ph0_0) rfl <| la rfl <| la rfl ?_
 obtain ⟨b1, hb_1, h⟩ := bs h
 refine WL.cutN 5 [(16, .bool b1), (1, .pointer (some ⟨b_1, 0, none⟩))] ?_ (fun K => ?_)
 rotate_left
 ·refine spl 11 rfl hb_1 (fun c1 hb_1 => ?_) (fun c1 hb_1 => ?_)
  ·refine la rfl <| la rfl <| la rfl <| la rfl <| la rfl ?_
   cases hb_1
   exact kk K ⟨rfl, rfl, trivial⟩
  ·refine ly rfl rfl <| lf Fld_29_1 rfl rfl rfl <| ly rfl rfl <| lo T1_3 0 rfl <| ly rfl rfl ?_
   obtain ⟨x1, hx1, hb_1⟩ := bs hb_1
   refine lp (p_call Fun_81 rfl (fun w1 hw => m_i_inRange_ok hw.fro N p0.Next 1 1000000 hx1)) rfl <| ly rfl rfl <| la rfl <| la rfl ?_
   cases hb_1
   exact kk K ⟨rfl, rfl, trivial⟩
 refine en ?_
 refine cdh rfl h (fun c2 h => ?_) (fun c2 h => ?_)
 ·refine sr <| la rfl <| en ?_
  refine WT.ret Tryz.func36 (resOk.one rfl) (fun w1 hw => ?_)
  subst hb0
  cases h
  exact post_of_St hw
 refine WT.skip <| sq <| sr <| lf Fld_29_0 rfl rfl rfl <| lo T1_27 0 rfl <| lq (q_lenR Sl_27 rfl rfl ph0_0) rfl <| la rfl <| en <| blk ?_
 refine loop_in (σ := Int) (fun s => [(1, .pointer (some ⟨b_1, 0, none⟩)), (18, pv0_0), (19, .int .i64 (p0.Items.length : Int)), (20, .int .i64 s)]) (fun s => St w0 Φ [(b_1, .cells #[pv0_0, .int .i64 p0.Next] 29 (0, 0))] []) (fun m s => m_i_StoreOk_l1 N p0 m s = some r) (0) N h ⟨rfl, rfl, rfl, rfl, trivial⟩ (fun w1 hw => (hw.sel (js := []) rfl).selO (js := [0]) rfl) (fun s hm => none_ne hm) (fun n1 ih1 s hm => ?_)
 revert hm; revert s; intro s1 hm
 have h : m_i_StoreOk_l1 N p0 (n1 + 1) s1 = some r := hm
 show WT _ _ [(1, .pointer (some ⟨b_1, 0, none⟩)), (18, pv0_0), (19, .int .i64 (p0.Items.length : Int)), (20, .int .i64 s1)] (St w0 Φ [(b_1, .cells #[pv0_0, .int .i64 p0.Next] 29 (0, 0))] [])
 unfold m_i_StoreOk_l1 at h
 refine sr <| la rfl <| en <| sq ?_
 refine cdh rfl h (fun c3 h => ?_) (fun c3 h => ?_)
 ·refine WT.skip <| sq <| blk <| sr <| la rfl ?_
  obtain ⟨x2, hx2, h⟩ := bs h
  obtain ⟨cs1, F1, -, g1, hb1, hs1, r1⟩ := ph0_0.el (idx_some hx2).2.2
  obtain ⟨v1, G1, rfl, hq1, h1⟩ := r1
  obtain rfl := hq1.symm
  refine lq (q_indexAddr Sl_27 rfl rfl ph0_0 hx2) rfl <| lg3 0 Tn_125 g1 rfl rfl ?_
  refine ln (nz Zr_125) rfl (fun b_2 => ?_)
  refine la rfl <| soN 0 Sz_125 rfl ⟨rfl, rfl, h1.one, trivial⟩ rfl ?_
  refine en <| sq <| sq <| WT.draw mixed (by kernel_rfl) (fun _ h => h.drew) <| qq (q_fieldAddr Fld_125_1 rfl) rfl <| qq (q_loadN Tn_123 rfl (fun w1 hw => hw.rgO (i := 0) rfl 1 2 [.string x2.F.Kind, v1] rfl) rfl) rfl ?_
  obtain ⟨x3, hx3, h⟩ := bs h
  refine qp (p_call Fun_83 rfl (fun w1 hw => m_i_FactOk_ok hw.fro N x2.F h1 hx3)) rfl <| qq (q_not rfl) rfl <| qq (q_move rfl) rfl ?_
  obtain ⟨b2, hb_2, h⟩ := bs h
  refine WQ.cutN 8 [(37, .bool b2), (1, .pointer (some ⟨b_1, 0, none⟩)), (3, .int .i64 s1), (4, .pointer (some ⟨b_2, 0, none⟩)), (18, pv0_0), (19, .int .i64 (p0.Items.length : Int)), (20, .int .i64 s1)] ?_ (fun K => ?_)
  rotate_left
  ·refine WQ.split (d := 29) rfl (fun c4 => ?_) (fun c4 => ?_)
   ·replace hb_2 := ite_t hb_2 c4
    refine WQ.no rfl rfl rfl rfl <| WQ.no rfl rfl rfl rfl <| WQ.no rfl rfl rfl rfl <| WQ.no rfl rfl rfl rfl <| WQ.no rfl rfl rfl rfl <| WQ.no rfl rfl rfl rfl <| WQ.no rfl rfl rfl rfl <| WQ.q (q_pick1 rfl rfl) rfl rfl rfl ?_
    cases hb_2
    exact WQ.keep (by exact ⟨rfl, rfl, rfl, rfl, rfl, rfl, rfl, trivial⟩) K
   ·replace hb_2 := ite_f hb_2 c4
    refine WQ.yes rfl rfl <| qq (q_fieldAddr Fld_125_0 rfl) rfl <| WQ.yes rfl rfl <| qq (q_load1 T1_3 rfl (fun w1 hw => hw.rgO (i := 0) rfl 0 1 [.int .i64 x2.Id] rfl)) rfl <| WQ.yes rfl rfl <| qq (q_fieldAddr Fld_29_1 rfl) rfl <| WQ.yes rfl rfl <| qq (q_load1 T1_3 rfl (fun w1 hw => hw.rgO (i := 1) rfl 1 1 [.int .i64 p0.Next] rfl)) rfl <| WQ.yes rfl rfl <| qq (q_sub rfl rfl) rfl <| WQ.yes rfl rfl ?_
    obtain ⟨x4, hx4, hb_2⟩ := bs hb_2
    refine qp (p_call Fun_81 rfl (fun w1 hw => m_i_inRange_ok hw.fro N x2.Id 1 (IntKind.i64.wrap (p0.Next - 1)) hx4)) rfl <| WQ.yes rfl rfl <| qq (q_not rfl) rfl <| WQ.q (q_pick0 rfl rfl) rfl rfl rfl ?_
    cases hb_2
    exact WQ.keep (by exact ⟨rfl, rfl, rfl, rfl, rfl, rfl, rfl, trivial⟩) K
  refine qq (q_move rfl) rfl ?_
  obtain ⟨b3, hb_3, h⟩ := bs h
  refine WQ.cutN 15 [(53, .bool b3), (1, .pointer (some ⟨b_1, 0, none⟩)), (3, .int .i64 s1), (4, .pointer (some ⟨b_2, 0, none⟩)), (18, pv0_0), (19, .int .i64 (p0.Items.length : Int)), (20, .int .i64 s1)] ?_ (fun K => ?_)
  rotate_left
  ·refine WQ.split (d := 38) rfl (fun c5 => ?_) (fun c5 => ?_)
   ·replace hb_3 := ite_t hb_3 c5
    refine WQ.no rfl rfl rfl rfl <| WQ.no rfl rfl rfl rfl <| WQ.no rfl rfl rfl rfl <| WQ.nox rfl rfl rfl rfl <| WQ.nox rfl rfl rfl rfl <| WQ.nox rfl rfl rfl rfl <| WQ.nox rfl rfl rfl rfl <| WQ.nox rfl rfl rfl rfl <| WQ.nox rfl rfl rfl rfl <| WQ.nox rfl rfl rfl rfl <| WQ.nox rfl rfl rfl rfl <| WQ.nox rfl rfl rfl rfl <| WQ.nox rfl rfl rfl rfl <| WQ.no rfl rfl rfl rfl <| WQ.q (q_pick1 rfl rfl) rfl rfl rfl ?_
    cases hb_3
    exact WQ.keep (by exact ⟨rfl, rfl, rfl, rfl, rfl, rfl, rfl, trivial⟩) K
   ·replace hb_3 := ite_f hb_3 c5
    refine WQ.yes rfl rfl <| qq (q_move rfl) rfl <| WQ.yes rfl rfl <| qq (q_gtr rfl rfl) rfl <| WQ.yes rfl rfl <| qq (q_move rfl) rfl ?_
    obtain ⟨b4, hb_4, hb_3⟩ := bs hb_3
    refine WQ.cutN 11 [(52, .bool b4), (1, .pointer (some ⟨b_1, 0, none⟩)), (3, .int .i64 s1), (4, .pointer (some ⟨b_2, 0, none⟩)), (18, pv0_0), (19, .int .i64 (p0.Items.length : Int)), (20, .int .i64 s1), (38, .bool false)] ?_ (fun K => ?_)
    rotate_left
    ·refine WQ.split (d := 41) rfl (fun c6 => ?_) (fun c6 => ?_)
     ·replace hb_4 := ite_t hb_4 c6
      refine WQ.yes rfl rfl <| qq (q_fieldAddr Fld_125_0 rfl) rfl <| WQ.yes rfl rfl <| qq (q_load1 T1_3 rfl (fun w1 hw => hw.rgO (i := 0) rfl 0 1 [.int .i64 x2.Id] rfl)) rfl <| WQ.yes rfl rfl <| qq (q_fieldAddr Fld_29_0 rfl) rfl <| WQ.yes rfl rfl <| qq (q_load1 T1_27 rfl (fun w1 hw => hw.rgO (i := 1) rfl 0 1 [pv0_0] rfl)) rfl <| WQ.yes rfl rfl <| qq (q_move rfl) rfl <| WQ.yes rfl rfl <| qq (q_sub rfl rfl) rfl <| WQ.yes rfl rfl ?_
      obtain ⟨x5, hx5, hb_4⟩ := bs hb_4
      obtain ⟨cs2, F2, -, g2, hb2, hs2, r2⟩ := ph0_0.el (idx_some hx5).2.2
      obtain ⟨v2, G2, rfl, hq2, h2⟩ := r2
      obtain rfl := hq2.symm
      refine qq (q_indexAddr Sl_27 rfl rfl ph0_0 hx5) rfl <| WQ.yes rfl rfl <| qq (q_fieldAddr Fld_125_0 rfl) rfl <| WQ.yes rfl rfl <| qq (q_load1 T1_3 rfl (fun w1 hw => (g2.of_eq 0 1 rfl rfl : rg _ _ _ [.int .i64 x5.Id]).rangeAt hw.fro)) rfl <| WQ.yes rfl rfl <| qq (q_leq rfl rfl) rfl <| WQ.yes rfl rfl <| WQ.q (q_pick1 rfl rfl) rfl rfl rfl ?_
      cases hb_4
      exact WQ.keep (by exact ⟨rfl, rfl, rfl, rfl, rfl, rfl, rfl, rfl, trivial⟩) K
     ·replace hb_4 := ite_f hb_4 c6
      refine WQ.no rfl rfl rfl rfl <| WQ.no rfl rfl rfl rfl <| WQ.no rfl rfl rfl rfl <| WQ.no rfl rfl rfl rfl <| WQ.no rfl rfl rfl rfl <| WQ.no rfl rfl rfl rfl <| WQ.no rfl rfl rfl rfl <| WQ.no rfl rfl rfl rfl <| WQ.no rfl rfl rfl rfl <| WQ.no rfl rfl rfl rfl <| WQ.yes rfl rfl <| WQ.q (q_pick0 rfl rfl) rfl rfl rfl ?_
      cases hb_4
      exact WQ.keep (by exact ⟨rfl, rfl, rfl, rfl, rfl, rfl, rfl, rfl, trivial⟩) K
    refine WQ.q (q_pick0 rfl rfl) rfl rfl rfl ?_
    cases hb_3
    exact WQ.keep (by exact ⟨rfl, rfl, rfl, rfl, rfl, rfl, rfl, trivial⟩) K
  refine WQ.nil ?_
  refine cdh rfl h (fun c7 h => ?_) (fun c7 h => ?_)
  ·refine sr <| la rfl <| en ?_
   refine WT.ret Tryz.func36 (resOk.one rfl) (fun w1 hw => ?_)
   subst hb0
   cases h
   exact post_of_St hw
  refine WT.skip <| sr <| lf Fld_29_0 rfl rfl rfl <| lo T1_27 1 rfl <| la rfl ?_
  obtain ⟨x6, hx6, h⟩ := bs h
  refine lq (q_slH Sl_27 rfl rfl ph0_0 hx6) rfl ?_
  obtain ⟨F3, h3, hs3⟩ := ph0_0.sub hx6
  refine lq (q_lenR Sl_27 rfl rfl h3) rfl <| la rfl <| en <| blk ?_
  refine loop_in (σ := Int) (fun s => [(1, .pointer (some ⟨b_1, 0, none⟩)), (4, .pointer (some ⟨b_2, 0, none⟩)), (18, pv0_0), (19, .int .i64 (p0.Items.length : Int)), (20, .int .i64 s1), (57, (slc pv0_0 (0 : Int).toNat s1.toNat 3)), (58, .int .i64 (x6.length : Int)), (59, .int .i64 s)]) (fun s => St w0 Φ [(b_2, .cells #[.int .i64 x2.Id, .string x2.F.Kind, v1] 125 (0, 0)), (b_1, .cells #[pv0_0, .int .i64 p0.Next] 29 (0, 0))] []) (fun m s => m_i_StoreOk_l2 N s1 (m_i_StoreOk_l1 N p0 n1) x2 x6 m s = some r) (0) N h ⟨rfl, rfl, rfl, rfl, rfl, rfl, rfl, rfl, trivial⟩ (fun w1 hw => (hw.sel (js := []) rfl).selO (js := [0, 0]) rfl) (fun s hm => none_ne hm) (fun n2 ih2 s hm => ?_)
  revert hm; revert s; intro s2 hm
  have h : m_i_StoreOk_l2 N s1 (m_i_StoreOk_l1 N p0 n1) x2 x6 (n2 + 1) s2 = some r := hm
  show WT _ _ [(1, .pointer (some ⟨b_1, 0, none⟩)), (4, .pointer (some ⟨b_2, 0, none⟩)), (18, pv0_0), (19, .int .i64 (p0.Items.length : Int)), (20, .int .i64 s1), (57, (slc pv0_0 (0 : Int).toNat s1.toNat 3)), (58, .int .i64 (x6.length : Int)), (59, .int .i64 s2)] (St w0 Φ [(b_2, .cells #[.int .i64 x2.Id, .string x2.F.Kind, v1] 125 (0, 0)), (b_1, .cells #[pv0_0, .int .i64 p0.Next] 29 (0, 0))] [])
  unfold m_i_StoreOk_l2 at h
  refine sr <| la rfl <| en <| sq ?_
  refine cdh rfl h (fun c8 h => ?_) (fun c8 h => ?_)
  ·refine WT.skip <| sq <| blk <| sr ?_
   obtain ⟨x7, hx7, h⟩ := bs h
   obtain ⟨cs3, F4, -, g3, hb3, hs4, r3⟩ := h3.el (idx_some hx7).2.2
   obtain ⟨v3, G3, rfl, hq3, h4⟩ := r3
   obtain rfl := hq3.symm
   refine lq (q_indexAddr Sl_27 rfl rfl h3 hx7) rfl <| lg3 0 Tn_125 g3 rfl rfl ?_
   refine ln (nz Zr_125) rfl (fun b_3 => ?_)
   refine soN 0 Sz_125 rfl ⟨rfl, rfl, h4.one, trivial⟩ rfl ?_
   refine en <| sr <| lf Fld_125_1 rfl rfl rfl <| ld2 Tn_123 1 rfl <| lf Fld_125_1 rfl rfl rfl <| ld2 Tn_123 0 rfl ?_
   obtain ⟨x8, hx8, h⟩ := bs h
   refine lp (p_call Fun_84 rfl (fun w1 hw => m_i_SameFact_ok hw.fro N x2.F x7.F h1 h4 hx8)) rfl <| en ?_
   refine cdh rfl h (fun c9 h => ?_) (fun c9 h => ?_)
   ·refine sr <| la rfl <| en ?_
    refine WT.ret Tryz.func36 (resOk.one rfl) (fun w1 hw => ?_)
    subst hb0
    cases h
    exact post_of_St hw
   refine WT.skip <| ib <| rgn <| la rfl <| la rfl <| en ?_
   exact lback (ih2 (IntKind.i64.wrap (s2 + 1)) h) ⟨rfl, rfl, rfl, rfl, rfl, rfl, rfl, rfl, trivial⟩ (fun w1 hw => (hw.sel (js := []) rfl).selO (js := [1, 1]) rfl)
  refine xt rfl <| ib <| rgn <| la rfl <| la rfl <| en ?_
  exact lback (ih1 (IntKind.i64.wrap (s1 + 1)) h) ⟨rfl, rfl, rfl, rfl, trivial⟩ (fun w1 hw => (hw.sel (js := []) rfl).selO (js := [1]) rfl)
 refine xt rfl <| sr <| la rfl <| en ?_
 refine WT.ret Tryz.func36 (resOk.one rfl) (fun w1 hw => ?_)
 subst hb0
 cases h
 exact post_of_St hw
theorem m_i_pats_ok {Φ : Hp} {w : World} (hΦ : In Φ w) (N : Nat) (p0 : TRule) (p1 : Bool) {pv0_0 pv0_1 pv0_2 : Value} {pG0_0 pG0_1 pG0_2 : List Nat} (ph0_0 : RSl RTPat 3 Φ pG0_0 pv0_0 p0.Pats) (ph0_1 : RSl RTCond 11 Φ pG0_1 pv0_1 p0.Conds) (ph0_2 : RSl RTAct 5 Φ pG0_2 pv0_2 p0.Acts) {r : (List TPat)} (h : m_i_pats N p0 p1 = some r) :
  Calls Tryz.prog 149 [.agg [.string p0.Name, .int .i64 p0.Sal, pv0_0, pv0_1, pv0_2].toArray, .bool p1].toArray w (PostG Φ w [] (fun Φ' Fs v => ∃ (sr_0_0 : Value) (Dr_0_0 : List Nat), v = sr_0_0 ∧ Fs = [ob sr_0_0] ∧ OSl RTPat 171 3 Φ' Dr_0_0 sr_0_0 r ∧ (∀ k ∈ Dr_0_0, k ∈ pG0_0))) := by
 refine enter Tryz.func149 rfl Tryz.ntmps149 rfl (St.start0 hΦ) ?_
 have pa0_0 := Old.mk hΦ ph0_0.kn (Dj.empty _)
 revert pa0_0
 generalize hb0 : (⟨w, [], Φ⟩ : Base) = w0
 intro pa0_0
 unfold m_i_pats at h
 refine sr ?_
 refine ln (nb rfl) rfl (fun b_1 => ?_)
 refine la rfl <| en <| sr <| la rfl <| en <| sq <| sr <| lf Fld_40_2 rfl rfl rfl <| lo T1_36 0 rfl <| lq (q_lenR Sl_36 rfl rfl ph0_0) rfl <| la rfl <| en <| blk <| WT.loop <| WT.conv (S' := St w0 Φ [(b_1, .cells #[.string p0.Name, .int .i64 p0.Sal, pv0_0, pv0_1, pv0_2] 40 (0, 0))] (ob (.slice none 0 0) :: [])) (fun w1 hw => hw.addNil) ?_
 have k1 := OSl.nil RTPat 171 3 Φ
 refine WT.mono (l' := [(1, .bool p1), (5, (.slice none 0 0)), (9, pv0_0), (10, .int .i64 (p0.Pats.length : Int)), (11, .int .i64 0)]) (S' := St w0 Φ [] [ob (.slice none 0 0)]) ⟨rfl, rfl, rfl, rfl, rfl, trivial⟩ (fun w1 hw => (hw.sel (js := [0]) rfl).selO (js := []) rfl) ?_
 refine loop_ind (σ := Hp × (List TPat) × Value × List Nat × Int) (fun s => [(1, .bool p1), (5, s.2.2.1), (9, pv0_0), (10, .int .i64 (p0.Pats.length : Int)), (11, .int .i64 s.2.2.2.2)]) (fun s => St w0 s.1 [] [ob s.2.2.1]) (fun m s => m_i_pats_l1 N p0 p1 m s.2.1 s.2.2.2.2 = some r ∧ (OSl RTPat 171 3 s.1 s.2.2.2.1 s.2.2.1 s.2.1) ∧ (∀ k ∈ s.2.2.2.1, k ∈ pG0_0) ∧ (RSl RTPat 3 s.1 pG0_0 pv0_0 p0.Pats)) (fun s hm => none_ne (show (none : Option ((List TPat))) = some r from hm.1)) (fun n1 ih1 s hm => ?_) N (Φ, ([] : List TPat), (.slice none 0 0), [], 0) ⟨h, k1, (by simp), ph0_0⟩
 obtain ⟨Φ_1, s1, u1, D1, s2⟩ := s
 obtain ⟨h, k2, i1, ph0_0⟩ := hm
 dsimp only at h k2 i1 ph0_0 ⊢
 unfold m_i_pats_l1 at h
 refine sr <| la rfl <| en <| sq ?_
 refine cdh rfl h (fun c1 h => ?_) (fun c1 h => ?_)
 ·refine WT.skip <| sq <| blk <| sr ?_
  obtain ⟨x1, hx1, h⟩ := bs h
  obtain ⟨cs1, F1, -, g1, hb1, hs1, r1⟩ := ph0_0.el (idx_some hx1).2.2
  obtain ⟨v1, G1, rfl, hq1, h1⟩ := r1
  obtain rfl := hq1.symm
  refine lq (q_indexAddr Sl_36 rfl rfl ph0_0 hx1) rfl <| lg3 0 Tn_171 g1 rfl rfl ?_
  refine ln (nz Zr_171) rfl (fun b_2 => ?_)
  refine soN 0 Sz_171 rfl ⟨rfl, h1.one, rfl, trivial⟩ rfl ?_
  refine en <| sr <| lf Fld_171_2 rfl rfl rfl <| lo T1_4 0 rfl <| la rfl <| lq (q_beq Bo_4 rfl rfl) rfl <| en ?_
  refine cdh rfl h (fun c2 h => ?_) (fun c2 h => ?_)
  ·refine rgn <| la rfl <| ld3 Tn_171 0 rfl ?_
   have rc1 : RC RTPat 3 Φ_1 ([G1] : List (List Nat)) [.string x1.Kind, v1, .bool x1.Not] ([x1] : List TPat) := RC.cons (c := [.string x1.Kind, v1, .bool x1.Not]) (cells := []) ⟨v1, G1, rfl, rfl, h1⟩ rfl (RC.nil _ _ _)
   refine le' (e_lit (vs := [(0, .agg [.string x1.Kind, v1, .bool x1.Not].toArray)]) (C := #[.string x1.Kind, v1, .bool x1.Not]) RTPat.lasts Sl_36 Zr_171 rfl rfl rfl rfl (fill_made MC_171_1 (fill_cons (C' := [.string x1.Kind, v1, .bool x1.Not]) rfl rfl rfl rfl rfl (fill_nil))) rfl rc1 rfl (RC.kn RTPat.knows rc1)) rfl (fun v2 Φ_2 D2 q1 => ?_)
   obtain ⟨fr1, h2⟩ := q1
   replace h2 : OSl RTPat 171 3 Φ_2 (G1) v2 ([x1] : List TPat) := by simpa [List.append_assoc] using h2
   replace ph0_0 := ph0_0.frame RTPat.lasts fr1 (Dj.empty _)
   replace k2 := k2.frame RTPat.lasts fr1 (Dj.empty _) (Dj.empty _)
   obtain ⟨x2, hx2, h⟩ := bs h
   refine le' (e_appO RTPat.lasts RTPat.one Sl_36 Ei_171 rfl rfl rfl rfl rfl (js := [1]) (Rr := [ob v2]) rfl k2 h2 (fun ap => (Dj.sub (ap.o pa0_0) i1)) (fun ap => (Dj.sub (Dj.sub (ap.o pa0_0) (fun k h => hs1 k h)) (fun k hk => (by simpa [List.append_assoc] using hk : k ∈ G1)))) hx2) rfl (fun v3 Φ_3 D3 q2 => ?_)
   obtain ⟨⟨ap1, fr2⟩, h3⟩ := q2
   replace ph0_0 := ph0_0.frame RTPat.lasts fr2 (ap1.o pa0_0)
   refine la rfl <| en <| ib <| rgn <| la rfl <| la rfl <| en ?_
   exact lback (ih1 (Φ_3, x2, v3, (D1 ++ (G1)), IntKind.i64.wrap (s2 + 1)) ⟨h, h3, (fun k hk => ((List.mem_append.1 hk).elim (fun h => (i1 k h)) (fun h => ((fun k h => hs1 k h) k ((fun k hk => (by simpa [List.append_assoc] using hk : k ∈ G1)) k h))))), ph0_0⟩) ⟨rfl, rfl, rfl, rfl, rfl, trivial⟩ (fun w1 hw => (hw.sel (js := [0]) rfl).selO (js := []) rfl)
  refine WT.skip <| ib <| rgn <| la rfl <| la rfl <| en ?_
  exact lback (ih1 (Φ_1, s1, u1, D1, IntKind.i64.wrap (s2 + 1)) ⟨h, k2, (fun k hk => (i1 k hk)), ph0_0⟩) ⟨rfl, rfl, rfl, rfl, rfl, trivial⟩ (fun w1 hw => (hw.sel (js := [0]) rfl).selO (js := []) rfl)
 refine xt rfl <| sr <| la rfl <| la rfl <| en ?_
 refine WT.ret Tryz.func149 (resOk.one rfl) (fun w1 hw => ?_)
 subst hb0
 cases h
 refine postG_of_St (js := [0]) hw rfl ⟨u1, D1, rfl, rfl, k2, (fun k hk => (i1 k hk))⟩
theorem m_sl_Clone_Si_Bind_i_Bind_ok {Φ : Hp} {w : World} (hΦ : In Φ w) (N : Nat) (p0 : (List TBind)) {pv0 : Value} {pG0 : List Nat} (ph0 : RSl RTBind 4 Φ pG0 pv0 p0) {r : (List TBind)} (h : m_sl_Clone_Si_Bind_i_Bind N p0 = some r) :
  Calls Tryz.prog 153 [pv0].toArray w (PostG Φ w [] (fun Φ' Fs v => ∃ (sr_0_0 : Value), v = sr_0_0 ∧ Fs = [ob sr_0_0] ∧ OSl RTBind 87 4 Φ' [] sr_0_0 r)) := by
 refine enter Tryz.func153 rfl Tryz.ntmps153 rfl (St.start0 hΦ) ?_
 unfold m_sl_Clone_Si_Bind_i_Bind at h
 refine sr <| la rfl <| en <| sq <| sq ?_
 rcases RSl.nilOr ph0 with ⟨hxs1, cc1, hv1⟩ | ⟨a1, cc1, hv1⟩
 ·replace h : some [] = some r := by simpa [hxs1, app] using h
  refine rgn <| la rfl <| lq (q_eqNil Sl_42 (congrArg some hv1) rfl) rfl <| en ?_
  refine cd rfl (fun c => ?_) (fun c => by simp at c)
  refine sr <| la rfl <| en ?_
  refine WT.ret Tryz.func153 (resOk.one rfl) (fun w1 hw => ?_)
  cases h
  replace hw := hw.addNil
  refine postG_of_St (js := [0]) hw rfl ⟨.slice none 0 0, rfl, rfl, OSl.nil _ _ _ _⟩
 refine rgn <| la rfl <| lq (q_eqNil Sl_42 (congrArg some hv1) rfl) rfl <| en ?_
 refine cd rfl (fun c => by simp at c) (fun c => ?_)
 refine WT.skip <| sr ?_
 refine le' (e_lit0 RTBind.lasts Sl_42 Zr_87 rfl rfl) rfl (fun v1 Φ_1 D1 q1 => ?_)
 obtain ⟨fr1, h1⟩ := q1
 replace ph0 := ph0.frame RTBind.lasts fr1 (Dj.empty _)
 refine la rfl ?_
 obtain ⟨x1, hx1, h⟩ := bs h
 refine le' (e_appF RTBind.lasts RTBind.one RTBind.flat Sl_42 Ei_87 rfl rfl rfl rfl rfl (js := [0]) (Rr := []) rfl h1 ph0 hx1) rfl (fun v2 Φ_2 D2 q2 => ?_)
 obtain ⟨⟨ap1, fr2⟩, h2⟩ := q2
 refine la rfl <| en ?_
 refine WT.ret Tryz.func153 (resOk.one rfl) (fun w1 hw => ?_)
 cases h
 refine postG_of_St (js := [0]) hw rfl ⟨v2, rfl, rfl, h2⟩
theorem m_i_BindOf_ok {Φ : Hp} {w : World} (hΦ : In Φ w) (N : Nat) (p0 : (List TBind)) (p1 : ByteArray) {pv0 : Value} {pG0 : List Nat} (ph0 : RSl RTBind 4 Φ pG0 pv0 p0) {r : TVal × Bool} (h : m_i_BindOf N p0 p1 = some r) :
  Calls Tryz.prog 186 [pv0, .string p1].toArray w (Post (.tuple #[.agg [.int .i64 r.1.K, .int .i64 r.1.N, .string r.1.S].toArray, .bool r.2]) w) := by
 refine enter Tryz.func186 rfl Tryz.ntmps186 rfl (St.start0 hΦ) ?_
 generalize hb0 : (⟨w, [], Φ⟩ : Base) = w0
 unfold m_i_BindOf at h
 refine sr ?_
 refine ln (nz Zr_85) rfl (fun b_1 => ?_)
 refine la rfl <| en <| sq <| sr <| la rfl <| lq (q_lenR Sl_42 rfl rfl ph0) rfl <| la rfl <| en <| blk ?_
 refine loop_in (σ := Int) (fun s => [(1, .string p1), (4, .pointer (some ⟨b_1, 0, none⟩)), (8, pv0), (9, .int .i64 (p0.length : Int)), (10, .int .i64 s)]) (fun s => St w0 Φ [(b_1, .cells #[.int .i64 0, .int .i64 0, .string (⟨#[]⟩ : ByteArray)] 85 (0, 0))] []) (fun m s => m_i_BindOf_l1 N p0 p1 m s = some r) (0) N h ⟨rfl, rfl, rfl, rfl, rfl, trivial⟩ (fun w1 hw => (hw.sel (js := []) rfl).selO (js := [0]) rfl) (fun s hm => none_ne hm) (fun n1 ih1 s hm => ?_)
 revert hm; revert s; intro s1 hm
 have h : m_i_BindOf_l1 N p0 p1 (n1 + 1) s1 = some r := hm
 show WT _ _ [(1, .string p1), (4, .pointer (some ⟨b_1, 0, none⟩)), (8, pv0), (9, .int .i64 (p0.length : Int)), (10, .int .i64 s1)] (St w0 Φ [(b_1, .cells #[.int .i64 0, .int .i64 0, .string (⟨#[]⟩ : ByteArray)] 85 (0, 0))] [])
 unfold m_i_BindOf_l1 at h
 refine sr <| la rfl <| en <| sq ?_
 refine cdh rfl h (fun c1 h => ?_) (fun c1 h => ?_)
 ·refine WT.skip <| sq <| blk <| sr ?_
  obtain ⟨x1, hx1, h⟩ := bs h
  obtain ⟨cs1, F1, -, g1, hb1, hs1, r1⟩ := ph0.el (idx_some hx1).2.2
  obtain ⟨rfl, -⟩ := r1
  refine lq (q_indexAddr Sl_42 rfl rfl ph0 hx1) rfl <| lg4 0 Tn_87 g1 rfl rfl ?_
  refine ln (nz Zr_87) rfl (fun b_2 => ?_)
  refine soN 0 Sz_87 rfl ⟨rfl, rfl, rfl, rfl, trivial⟩ rfl ?_
  refine en <| sr <| lf Fld_87_0 rfl rfl rfl <| lo T1_9 0 rfl <| la rfl <| la rfl <| en ?_
  refine cdh rfl h (fun c2 h => ?_) (fun c2 h => ?_)
  ·refine sr <| lf Fld_87_1 rfl rfl rfl <| ld3 Tn_85 0 rfl <| soN 1 Sz_85 rfl ⟨rfl, rfl, rfl, trivial⟩ rfl ?_
   refine la rfl <| en ?_
   refine WT.ret Tryz.func186 (resOk.two (rv_cell Tn_85 rfl (fun w1 hw => hw.rgO (i := 1) rfl 0 3 [.int .i64 x1.V.K, .int .i64 x1.V.N, .string x1.V.S] rfl) rfl) rfl) (fun w1 hw => ?_)
   subst hb0
   cases h
   exact post_of_St hw
  refine WT.skip <| ib <| rgn <| la rfl <| la rfl <| en ?_
  exact lback (ih1 (IntKind.i64.wrap (s1 + 1)) h) ⟨rfl, rfl, rfl, rfl, rfl, trivial⟩ (fun w1 hw => (hw.sel (js := []) rfl).selO (js := [1]) rfl)
 refine xt rfl <| sr <| lq (q_build (vs := []) (C := #[.int .i64 0, .int .i64 0, .string (⟨#[]⟩ : ByteArray)]) Pl_85 Zr_85 rfl (fill_nil)) rfl <| soN 0 Sz_85 rfl ⟨rfl, rfl, rfl, trivial⟩ rfl ?_
 refine la rfl <| en ?_
 refine WT.ret Tryz.func186 (resOk.two (rv_cell Tn_85 rfl (fun w1 hw => hw.rgO (i := 0) rfl 0 3 [.int .i64 0, .int .i64 0, .string (⟨#[]⟩ : ByteArray)] rfl) rfl) rfl) (fun w1 hw => ?_)
 subst hb0
 cases h
 exact post_of_St hw
theorem m_i_MatchPat_ok {Φ : Hp} {w : World} (hΦ : In Φ w) (N : Nat) (p0 : TPat) (p1 : TFact) (p2 : (List TBind)) {pv0_0 pv1_0 pv2 : Value} {pG0_0 pG1_0 pG2 : List Nat} (ph0_0 : RSl RTArg 5 Φ pG0_0 pv0_0 p0.Args) (ph1_0 : RSl RTVal 3 Φ pG1_0 pv1_0 p1.Fields) (ph2 : RSl RTBind 4 Φ pG2 pv2 p2) {r : (List TBind) × Bool} (h : m_i_MatchPat N p0 p1 p2 = some r) :
  Calls Tryz.prog 154 [.agg [.string p0.Kind, pv0_0, .bool p0.Not].toArray, .agg [.string p1.Kind, pv1_0].toArray, pv2].toArray w (PostG Φ w [] (fun Φ' Fs v => ∃ (sr_0_0 : Value), v = .tuple #[sr_0_0, .bool r.2] ∧ Fs = [ob sr_0_0] ∧ OSl RTBind 87 4 Φ' [] sr_0_0 r.1)) := by
 refine enter Tryz.func154 rfl Tryz.ntmps154 rfl (St.start0 hΦ) ?_
 have pa0_0 := Old.mk hΦ ph0_0.kn (Dj.empty _)
 have pa1_0 := Old.mk hΦ ph1_0.kn (Dj.empty _)
 have pa2 := Old.mk hΦ ph2.kn (Dj.empty _)
 revert pa0_0 pa1_0 pa2
 generalize hb0 : (⟨w, [], Φ⟩ : Base) = w0
 intro pa0_0 pa1_0 pa2
 unfold m_i_MatchPat at h
 refine sr ?_
 refine ln (nb rfl) rfl (fun b_1 => ?_)
 refine ln (nb rfl) rfl (fun b_2 => ?_)
 refine la rfl <| la rfl <| en <| sq <| sr <| lf Fld_123_0 rfl rfl rfl <| lo T1_9 0 rfl <| lf Fld_171_0 rfl rfl rfl <| lo T1_9 1 rfl <| la rfl <| la rfl ?_
 obtain ⟨b1, hb_1, h⟩ := bs h
 refine WL.cutN 8 [(27, .bool b1), (2, pv2), (3, .pointer (some ⟨b_1, 0, none⟩)), (4, .pointer (some ⟨b_2, 0, none⟩))] ?_ (fun K => ?_)
 rotate_left
 ·refine spl 19 rfl hb_1 (fun c1 hb_1 => ?_) (fun c1 hb_1 => ?_)
  ·refine la rfl <| la rfl <| la rfl <| la rfl <| la rfl <| la rfl <| la rfl <| la rfl ?_
   cases hb_1
   exact kk K ⟨rfl, rfl, rfl, rfl, trivial⟩
  ·refine ly rfl rfl <| lf Fld_123_1 rfl rfl rfl <| ly rfl rfl <| lo T1_121 0 rfl <| ly rfl rfl <| lq (q_lenR Sl_121 rfl rfl ph1_0) rfl <| ly rfl rfl <| lf Fld_171_1 rfl rfl rfl <| ly rfl rfl <| lo T1_169 1 rfl <| ly rfl rfl <| lq (q_lenR Sl_169 rfl rfl ph0_0) rfl <| ly rfl rfl <| la rfl <| la rfl ?_
   cases hb_1
   exact kk K ⟨rfl, rfl, rfl, rfl, trivial⟩
 refine en ?_
 refine cdh rfl h (fun c2 h => ?_) (fun c2 h => ?_)
 ·refine sr <| la rfl ?_
  obtain ⟨x1, hx1, h⟩ := bs h
  refine lc (k_call (js := []) (R := []) Fun_153 rfl rfl (fun w1 hw ap hl => m_sl_Clone_Si_Bind_i_Bind_ok hw.fro N p2 ph2  hx1)) rfl (fun v1 Φ_1 F1 q1 => ?_)
  obtain ⟨ap1, fr1, v2, rfl, rfl, h1⟩ := q1
  refine la rfl <| la rfl <| en ?_
  refine WT.ret Tryz.func154 (resOk.two rfl rfl) (fun w1 hw => ?_)
  subst hb0
  cases h
  refine postG_of_St (js := [0]) hw rfl ⟨v1, rfl, rfl, h1⟩
 refine WT.skip <| sr <| la rfl ?_
 obtain ⟨x2, hx2, h⟩ := bs h
 refine lc (k_call (js := []) (R := []) Fun_153 rfl rfl (fun w1 hw ap hl => m_sl_Clone_Si_Bind_i_Bind_ok hw.fro N p2 ph2  hx2)) rfl (fun v3 Φ_2 F2 q2 => ?_)
 obtain ⟨ap2, fr2, v4, rfl, rfl, h2⟩ := q2
 replace ph2 := ph2.frame RTBind.lasts fr2 (ap2.o pa2)
 replace ph0_0 := ph0_0.frame RTArg.lasts fr2 (ap2.o pa0_0)
 replace ph1_0 := ph1_0.frame RTVal.lasts fr2 (ap2.o pa1_0)
 refine la rfl <| en <| sq <| sr <| lf Fld_171_1 rfl rfl rfl <| lo T1_169 1 rfl <| lq (q_lenR Sl_169 rfl rfl ph0_0) rfl <| la rfl <| en <| blk ?_
 refine loop_in (σ := Hp × (List TBind) × Value × Int) (fun s => [(2, pv2), (4, .pointer (some ⟨b_2, 0, none⟩)), (8, s.2.2.1), (33, pv0_0), (34, .int .i64 (p0.Args.length : Int)), (35, .int .i64 s.2.2.2)]) (fun s => St w0 s.1 [(b_2, .cells #[.string p1.Kind, pv1_0] 123 (0, 0))] [ob s.2.2.1]) (fun m s => m_i_MatchPat_l1 N p0 p1 p2 m s.2.1 s.2.2.2 = some r ∧ (OSl RTBind 87 4 s.1 [] s.2.2.1 s.2.1) ∧ (RSl RTBind 4 s.1 pG2 pv2 p2) ∧ (RSl RTVal 3 s.1 pG1_0 pv1_0 p1.Fields) ∧ (RSl RTArg 5 s.1 pG0_0 pv0_0 p0.Args)) (Φ_2, x2, v3, 0) N ⟨h, h2, ph2, ph1_0, ph0_0⟩ ⟨rfl, rfl, rfl, rfl, rfl, rfl, trivial⟩ (fun w1 hw => (hw.sel (js := [0]) rfl).selO (js := [0]) rfl) (fun s hm => none_ne hm.1) (fun n1 ih1 s hm => ?_)
 obtain ⟨Φ_3, s1, u1, s2⟩ := s
 obtain ⟨h, k1, ph2, ph1_0, ph0_0⟩ := hm
 dsimp only at h k1 ph2 ph1_0 ph0_0 ⊢
 unfold m_i_MatchPat_l1 at h
 refine sr <| la rfl <| en <| sq ?_
 refine cdh rfl h (fun c3 h => ?_) (fun c3 h => ?_)
 ·refine WT.skip <| sq <| blk <| sr <| la rfl ?_
  obtain ⟨x3, hx3, h⟩ := bs h
  obtain ⟨cs1, F3, -, g1, hb1, hs1, r1⟩ := ph0_0.el (idx_some hx3).2.2
  obtain ⟨rfl, -⟩ := r1
  refine lq (q_indexAddr Sl_169 rfl rfl ph0_0 hx3) rfl <| lg5 0 Tn_137 g1 rfl rfl ?_
  refine ln (nz Zr_137) rfl (fun b_3 => ?_)
  refine la rfl <| soN 0 Sz_137 rfl ⟨rfl, rfl, rfl, rfl, rfl, trivial⟩ rfl ?_
  refine en <| sr <| lf Fld_123_1 rfl rfl rfl <| lo T1_121 1 rfl <| la rfl ?_
  obtain ⟨x4, hx4, h⟩ := bs h
  obtain ⟨cs2, F4, -, g2, hb2, hs2, r2⟩ := ph1_0.el (idx_some hx4).2.2
  obtain ⟨rfl, -⟩ := r2
  refine lq (q_indexAddr Sl_121 rfl rfl ph1_0 hx4) rfl <| lg3 0 Tn_85 g2 rfl rfl ?_
  refine ln (nz Zr_85) rfl (fun b_4 => ?_)
  refine soN 0 Sz_85 rfl ⟨rfl, rfl, rfl, trivial⟩ rfl ?_
  refine en <| sr <| lf Fld_137_0 rfl rfl rfl <| lo T1_3 1 rfl <| en <| blk <| sr <| la rfl <| la rfl <| en ?_
  refine cdh rfl h (fun c4 h => ?_) (fun c4 h => ?_)
  ·refine sr <| lf Fld_137_2 rfl rfl rfl <| ld3 Tn_85 1 rfl <| ld3 Tn_85 0 rfl <| lq (q_neA EqT_85 rfl rfl rfl (r := eqT_TVal x3.V x4) rfl) rfl <| en ?_
   refine cdh rfl h (fun c5 h => ?_) (fun c5 h => ?_)
   ·refine sr <| la rfl ?_
    obtain ⟨x5, hx5, h⟩ := bs h
    refine lc (k_call (js := []) (R := [ob u1]) Fun_153 rfl rfl (fun w1 hw ap hl => m_sl_Clone_Si_Bind_i_Bind_ok hw.fro N p2 ph2  hx5)) rfl (fun v5 Φ_4 F5 q3 => ?_)
    obtain ⟨ap3, fr3, v6, rfl, rfl, h3⟩ := q3
    refine la rfl <| la rfl <| en ?_
    refine WT.ret Tryz.func154 (resOk.two rfl rfl) (fun w1 hw => ?_)
    subst hb0
    cases h
    refine postG_of_St (js := [0]) hw rfl ⟨v5, rfl, rfl, h3⟩
   refine WT.skip <| ib <| ib <| rgn <| la rfl <| la rfl <| en ?_
   exact lback (ih1 (Φ_3, s1, u1, IntKind.i64.wrap (s2 + 1)) ⟨h, k1, ph2, ph1_0, ph0_0⟩) ⟨rfl, rfl, rfl, rfl, rfl, rfl, trivial⟩ (fun w1 hw => (hw.sel (js := [0]) rfl).selO (js := [2]) rfl)
  refine sr <| la rfl <| la rfl <| en ?_
  refine cdh rfl h (fun c6 h => ?_) (fun c6 h => ?_)
  ·refine sr <| la rfl <| lf Fld_137_1 rfl rfl rfl <| lo T1_9 1 rfl ?_
   obtain ⟨x6, hx6, h⟩ := bs h
   refine lp (p_call Fun_186 rfl (fun w1 hw => m_i_BindOf_ok hw.fro N s1 x3.S k1.rsl hx6)) rfl <| la rfl <| lq (q_extract rfl rfl) rfl <| lq (q_extract rfl rfl) rfl ?_
   refine ln (nz Zr_85) rfl (fun b_5 => ?_)
   refine soN 0 Sz_85 rfl ⟨rfl, rfl, rfl, trivial⟩ rfl ?_
   refine la rfl <| en <| sq <| sr <| la rfl <| la rfl ?_
   obtain ⟨b2, hb_2, h⟩ := bs h
   refine WL.cutN 4 [(69, .bool b2), (2, pv2), (4, .pointer (some ⟨b_2, 0, none⟩)), (8, u1), (10, .pointer (some ⟨b_3, 0, none⟩)), (11, .pointer (some ⟨b_4, 0, none⟩)), (13, .bool x6.2), (33, pv0_0), (34, .int .i64 (p0.Args.length : Int)), (35, .int .i64 s2)] ?_ (fun K => ?_)
   rotate_left
   ·refine spl 65 rfl hb_2 (fun c7 hb_2 => ?_) (fun c7 hb_2 => ?_)
    ·refine ly rfl rfl <| ld3 Tn_85 0 rfl <| ly rfl rfl <| ld3 Tn_85 1 rfl <| ly rfl rfl <| lq (q_neA EqT_85 rfl rfl rfl (r := eqT_TVal x6.1 x4) rfl) rfl <| la rfl ?_
     cases hb_2
     exact kk K ⟨rfl, rfl, rfl, rfl, rfl, rfl, rfl, rfl, rfl, rfl, trivial⟩
    ·refine la rfl <| la rfl <| la rfl <| la rfl ?_
     cases hb_2
     exact kk K ⟨rfl, rfl, rfl, rfl, rfl, rfl, rfl, rfl, rfl, rfl, trivial⟩
   refine en ?_
   refine cdh rfl h (fun c8 h => ?_) (fun c8 h => ?_)
   ·refine sr <| la rfl ?_
    obtain ⟨x7, hx7, h⟩ := bs h
    refine lc (k_call (js := []) (R := [ob u1]) Fun_153 rfl rfl (fun w1 hw ap hl => m_sl_Clone_Si_Bind_i_Bind_ok hw.fro N p2 ph2  hx7)) rfl (fun v7 Φ_5 F6 q4 => ?_)
    obtain ⟨ap4, fr4, v8, rfl, rfl, h4⟩ := q4
    refine la rfl <| la rfl <| en ?_
    refine WT.ret Tryz.func154 (resOk.two rfl rfl) (fun w1 hw => ?_)
    subst hb0
    cases h
    refine postG_of_St (js := [0]) hw rfl ⟨v7, rfl, rfl, h4⟩
   refine WT.skip <| sr <| la rfl <| la rfl <| en ?_
   refine cdh rfl h (fun c9 h => ?_) (fun c9 h => ?_)
   ·refine rgn <| la rfl <| lf Fld_137_1 rfl rfl rfl <| lo T1_9 2 rfl <| ld3 Tn_85 1 rfl <| lq (q_build (vs := [(0, .string x3.S), (1, .agg [.int .i64 x4.K, .int .i64 x4.N, .string x4.S].toArray)]) (C := #[.string x3.S, .int .i64 x4.K, .int .i64 x4.N, .string x4.S]) Pl_87 Zr_87 rfl (fill_cons (C' := [.string x3.S, .int .i64 0, .int .i64 0, .string ⟨#[]⟩]) rfl rfl rfl rfl rfl (fill_cons (C' := [.string x3.S, .int .i64 x4.K, .int .i64 x4.N, .string x4.S]) rfl rfl rfl rfl rfl (fill_nil)))) rfl ?_
    have rc1 : RC RTBind 4 Φ_3 ([[]] : List (List Nat)) [.string x3.S, .int .i64 x4.K, .int .i64 x4.N, .string x4.S] ([(⟨x3.S, x4⟩ : TBind)] : List TBind) := RC.cons (c := [.string x3.S, .int .i64 x4.K, .int .i64 x4.N, .string x4.S]) (cells := []) ⟨rfl, rfl⟩ rfl (RC.nil _ _ _)
    refine le' (e_lit (vs := [(0, .agg [.string x3.S, .int .i64 x4.K, .int .i64 x4.N, .string x4.S].toArray)]) (C := #[.string x3.S, .int .i64 x4.K, .int .i64 x4.N, .string x4.S]) RTBind.lasts Sl_42 Zr_87 rfl rfl rfl rfl (fill_made MC_87_1 (fill_cons (C' := [.string x3.S, .int .i64 x4.K, .int .i64 x4.N, .string x4.S]) rfl rfl rfl rfl rfl (fill_nil))) rfl rc1 rfl (by simpa using Kw.nil)) rfl (fun v9 Φ_6 D1 q5 => ?_)
    obtain ⟨fr5, h5⟩ := q5
    replace h5 : OSl RTBind 87 4 Φ_6 [] v9 ([(⟨x3.S, x4⟩ : TBind)] : List TBind) := by simpa using h5
    replace ph2 := ph2.frame RTBind.lasts fr5 (Dj.empty _)
    replace ph1_0 := ph1_0.frame RTVal.lasts fr5 (Dj.empty _)
    replace ph0_0 := ph0_0.frame RTArg.lasts fr5 (Dj.empty _)
    replace k1 := k1.frame RTBind.lasts fr5 (Dj.empty _) (Dj.empty _)
    obtain ⟨x8, hx8, h⟩ := bs h
    refine le' (e_appF RTBind.lasts RTBind.one RTBind.flat Sl_42 Ei_87 rfl rfl rfl rfl rfl (js := [1]) (Rr := [ob v9]) rfl k1 h5.rsl hx8) rfl (fun v10 Φ_7 D2 q6 => ?_)
    obtain ⟨⟨ap5, fr6⟩, h6⟩ := q6
    replace ph2 := ph2.frame RTBind.lasts fr6 (ap5.o pa2)
    replace ph1_0 := ph1_0.frame RTVal.lasts fr6 (ap5.o pa1_0)
    replace ph0_0 := ph0_0.frame RTArg.lasts fr6 (ap5.o pa0_0)
    refine la rfl <| en <| ib <| ib <| rgn <| la rfl <| la rfl <| en ?_
    exact lback (ih1 (Φ_7, x8, v10, IntKind.i64.wrap (s2 + 1)) ⟨h, h6, ph2, ph1_0, ph0_0⟩) ⟨rfl, rfl, rfl, rfl, rfl, rfl, trivial⟩ (fun w1 hw => (hw.sel (js := [0]) rfl).selO (js := [3]) rfl)
   refine WT.skip <| ib <| ib <| rgn <| la rfl <| la rfl <| en ?_
   exact lback (ih1 (Φ_3, s1, u1, IntKind.i64.wrap (s2 + 1)) ⟨h, k1, ph2, ph1_0, ph0_0⟩) ⟨rfl, rfl, rfl, rfl, rfl, rfl, trivial⟩ (fun w1 hw => (hw.sel (js := [0]) rfl).selO (js := [3]) rfl)
  refine WT.skip <| ib <| ib <| rgn <| la rfl <| la rfl <| en ?_
  exact lback (ih1 (Φ_3, s1, u1, IntKind.i64.wrap (s2 + 1)) ⟨h, k1, ph2, ph1_0, ph0_0⟩) ⟨rfl, rfl, rfl, rfl, rfl, rfl, trivial⟩ (fun w1 hw => (hw.sel (js := [0]) rfl).selO (js := [2]) rfl)
 refine xt rfl <| sr <| la rfl <| la rfl <| la rfl <| en ?_
 refine WT.ret Tryz.func154 (resOk.two rfl rfl) (fun w1 hw => ?_)
 subst hb0
 cases h
 refine postG_of_St (js := [0]) hw rfl ⟨u1, rfl, rfl, k1⟩
theorem m_i_hitsIn_ok {Φ : Hp} {w : World} (hΦ : In Φ w) (N : Nat) (p0 : TPat) (p1 : TStore) (p2 : (List TBind)) {pv0_0 pv1_0 pv2 : Value} {pG0_0 pG1_0 pG2 : List Nat} (ph0_0 : RSl RTArg 5 Φ pG0_0 pv0_0 p0.Args) (ph1_0 : RSl RTItem 3 Φ pG1_0 pv1_0 p1.Items) (ph2 : RSl RTBind 4 Φ pG2 pv2 p2) {r : Int} (h : m_i_hitsIn N p0 p1 p2 = some r) :
  Calls Tryz.prog 184 [.agg [.string p0.Kind, pv0_0, .bool p0.Not].toArray, .agg [pv1_0, .int .i64 p1.Next].toArray, pv2].toArray w (Post (.int .i64 r) w) := by
 refine enter Tryz.func184 rfl Tryz.ntmps184 rfl (St.start0 hΦ) ?_
 have pa0_0 := Old.mk hΦ ph0_0.kn (Dj.empty _)
 have pa1_0 := Old.mk hΦ ph1_0.kn (Dj.empty _)
 have pa2 := Old.mk hΦ ph2.kn (Dj.empty _)
 revert pa0_0 pa1_0 pa2
 generalize hb0 : (⟨w, [], Φ⟩ : Base) = w0
 intro pa0_0 pa1_0 pa2
 unfold m_i_hitsIn at h
 refine sr ?_
 refine ln (nb rfl) rfl (fun b_1 => ?_)
 refine ln (nb rfl) rfl (fun b_2 => ?_)
 refine la rfl <| en <| sr <| la rfl <| en <| sq <| sr <| lf Fld_29_0 rfl rfl rfl <| lo T1_27 0 rfl <| lq (q_lenR Sl_27 rfl rfl ph1_0) rfl <| la rfl <| en <| blk ?_
 refine loop_in (σ := Hp × Int × Int) (fun s => [(2, pv2), (3, .pointer (some ⟨b_1, 0, none⟩)), (7, .int .i64 s.2.1), (13, pv1_0), (14, .int .i64 (p1.Items.length : Int)), (15, .int .i64 s.2.2)]) (fun s => St w0 s.1 [(b_1, .cells #[.string p0.Kind, pv0_0, .bool p0.Not] 171 (0, 0))] []) (fun m s => m_i_hitsIn_l1 N p0 p1 p2 m s.2.1 s.2.2 = some r ∧ (RSl RTBind 4 s.1 pG2 pv2 p2) ∧ (RSl RTArg 5 s.1 pG0_0 pv0_0 p0.Args) ∧ (RSl RTItem 3 s.1 pG1_0 pv1_0 p1.Items)) (Φ, 0, 0) N ⟨h, ph2, ph0_0, ph1_0⟩ ⟨rfl, rfl, rfl, rfl, rfl, rfl, trivial⟩ (fun w1 hw => (hw.sel (js := []) rfl).selO (js := [1]) rfl) (fun s hm => none_ne hm.1) (fun n1 ih1 s hm => ?_)
 obtain ⟨Φ_1, s1, s2⟩ := s
 obtain ⟨h, ph2, ph0_0, ph1_0⟩ := hm
 dsimp only at h ph2 ph0_0 ph1_0 ⊢
 unfold m_i_hitsIn_l1 at h
 refine sr <| la rfl <| en <| sq ?_
 refine cdh rfl h (fun c1 h => ?_) (fun c1 h => ?_)
 ·refine WT.skip <| sq <| blk <| sr ?_
  obtain ⟨x1, hx1, h⟩ := bs h
  obtain ⟨cs1, F1, -, g1, hb1, hs1, r1⟩ := ph1_0.el (idx_some hx1).2.2
  obtain ⟨v1, G1, rfl, hq1, h1⟩ := r1
  obtain rfl := hq1.symm
  refine lq (q_indexAddr Sl_27 rfl rfl ph1_0 hx1) rfl <| lg3 0 Tn_125 g1 rfl rfl ?_
  refine ln (nz Zr_125) rfl (fun b_3 => ?_)
  refine soN 0 Sz_125 rfl ⟨rfl, rfl, h1.one, trivial⟩ rfl ?_
  refine en <| sr <| ld3 Tn_171 1 rfl <| lf Fld_125_1 rfl rfl rfl <| ld2 Tn_123 0 rfl <| la rfl ?_
  obtain ⟨x2, hx2, h⟩ := bs h
  refine lc (k_call (js := []) (R := []) Fun_154 rfl rfl (fun w1 hw ap hl => m_i_MatchPat_ok hw.fro N p0 x1.F p2 ph0_0 h1 ph2  hx2)) rfl (fun v2 Φ_2 F2 q1 => ?_)
  obtain ⟨ap1, fr1, v3, rfl, rfl, h2⟩ := q1
  replace ph2 := ph2.frame RTBind.lasts fr1 (ap1.o pa2)
  replace ph0_0 := ph0_0.frame RTArg.lasts fr1 (ap1.o pa0_0)
  replace ph1_0 := ph1_0.frame RTItem.lasts fr1 (ap1.o pa1_0)
  refine la rfl <| lq (q_extract rfl rfl) rfl <| lq (q_extract rfl rfl) rfl <| la rfl <| la rfl <| en <| sr <| la rfl <| en ?_
  refine cdh rfl h (fun c2 h => ?_) (fun c2 h => ?_)
  ·refine rgn <| la rfl <| la rfl <| la rfl <| en <| ib <| rgn <| la rfl <| la rfl <| en ?_
   exact lback (ih1 (Φ_2, IntKind.i64.wrap (s1 + 1), IntKind.i64.wrap (s2 + 1)) ⟨h, ph2, ph0_0, ph1_0⟩) ⟨rfl, rfl, rfl, rfl, rfl, rfl, trivial⟩ (fun w1 hw => (hw.sel (js := []) rfl).selO (js := [1]) rfl)
  refine WT.skip <| ib <| rgn <| la rfl <| la rfl <| en ?_
  exact lback (ih1 (Φ_2, s1, IntKind.i64.wrap (s2 + 1)) ⟨h, ph2, ph0_0, ph1_0⟩) ⟨rfl, rfl, rfl, rfl, rfl, rfl, trivial⟩ (fun w1 hw => (hw.sel (js := []) rfl).selO (js := [1]) rfl)
 refine xt rfl <| sr <| la rfl <| la rfl <| en ?_
 refine WT.ret Tryz.func184 (resOk.one rfl) (fun w1 hw => ?_)
 subst hb0
 cases h
 exact post_of_St hw
theorem m_i_Blocked_ok {Φ : Hp} {w : World} (hΦ : In Φ w) (N : Nat) (p0 : TRule) (p1 : TStore) (p2 : (List TBind)) {pv0_0 pv0_1 pv0_2 pv1_0 pv2 : Value} {pG0_0 pG0_1 pG0_2 pG1_0 pG2 : List Nat} (ph0_0 : RSl RTPat 3 Φ pG0_0 pv0_0 p0.Pats) (ph0_1 : RSl RTCond 11 Φ pG0_1 pv0_1 p0.Conds) (ph0_2 : RSl RTAct 5 Φ pG0_2 pv0_2 p0.Acts) (ph1_0 : RSl RTItem 3 Φ pG1_0 pv1_0 p1.Items) (ph2 : RSl RTBind 4 Φ pG2 pv2 p2) {r : Bool} (h : m_i_Blocked N p0 p1 p2 = some r) :
  Calls Tryz.prog 150 [.agg [.string p0.Name, .int .i64 p0.Sal, pv0_0, pv0_1, pv0_2].toArray, .agg [pv1_0, .int .i64 p1.Next].toArray, pv2].toArray w (Post (.bool r) w) := by
 refine enter Tryz.func150 rfl Tryz.ntmps150 rfl (St.start0 hΦ) ?_
 generalize hb0 : (⟨w, [], Φ⟩ : Base) = w0
 unfold m_i_Blocked at h
 refine sr ?_
 refine ln (nb rfl) rfl (fun b_1 => ?_)
 refine ln (nb rfl) rfl (fun b_2 => ?_)
 refine la rfl <| en <| sq <| sr <| lf Fld_40_2 rfl rfl rfl <| lo T1_36 1 rfl <| lq (q_lenR Sl_36 rfl rfl ph0_0) rfl <| la rfl <| en <| blk ?_
 refine loop_in (σ := Int) (fun s => [(2, pv2), (4, .pointer (some ⟨b_2, 0, none⟩)), (10, pv0_0), (11, .int .i64 (p0.Pats.length : Int)), (12, .int .i64 s)]) (fun s => St w0 Φ [(b_2, .cells #[pv1_0, .int .i64 p1.Next] 29 (0, 0))] []) (fun m s => m_i_Blocked_l1 N p0 p1 p2 m s = some r) (0) N h ⟨rfl, rfl, rfl, rfl, rfl, trivial⟩ (fun w1 hw => (hw.sel (js := []) rfl).selO (js := [0]) rfl) (fun s hm => none_ne hm) (fun n1 ih1 s hm => ?_)
 revert hm; revert s; intro s1 hm
 have h : m_i_Blocked_l1 N p0 p1 p2 (n1 + 1) s1 = some r := hm
 show WT _ _ [(2, pv2), (4, .pointer (some ⟨b_2, 0, none⟩)), (10, pv0_0), (11, .int .i64 (p0.Pats.length : Int)), (12, .int .i64 s1)] (St w0 Φ [(b_2, .cells #[pv1_0, .int .i64 p1.Next] 29 (0, 0))] [])
 unfold m_i_Blocked_l1 at h
 refine sr <| la rfl <| en <| sq ?_
 refine cdh rfl h (fun c1 h => ?_) (fun c1 h => ?_)
 ·refine WT.skip <| sq <| blk <| sr ?_
  obtain ⟨x1, hx1, h⟩ := bs h
  obtain ⟨cs1, F1, -, g1, hb1, hs1, r1⟩ := ph0_0.el (idx_some hx1).2.2
  obtain ⟨v1, G1, rfl, hq1, h1⟩ := r1
  obtain rfl := hq1.symm
  refine lq (q_indexAddr Sl_36 rfl rfl ph0_0 hx1) rfl <| lg3 0 Tn_171 g1 rfl rfl ?_
  refine ln (nz Zr_171) rfl (fun b_3 => ?_)
  refine soN 0 Sz_171 rfl ⟨rfl, h1.one, rfl, trivial⟩ rfl ?_
  refine en <| sr <| lf Fld_171_2 rfl rfl rfl <| lo T1_4 0 rfl <| la rfl ?_
  obtain ⟨b1, hb_1, h⟩ := bs h
  refine WL.cutN 6 [(24, .bool b1), (2, pv2), (4, .pointer (some ⟨b_2, 0, none⟩)), (10, pv0_0), (11, .int .i64 (p0.Pats.length : Int)), (12, .int .i64 s1)] ?_ (fun K => ?_)
  rotate_left
  ·refine spl 18 rfl hb_1 (fun c2 hb_1 => ?_) (fun c2 hb_1 => ?_)
   ·refine ly rfl rfl <| ld3 Tn_171 0 rfl <| ly rfl rfl <| ld2 Tn_29 1 rfl <| ly rfl rfl <| la rfl <| ly rfl rfl ?_
    obtain ⟨x2, hx2, hb_1⟩ := bs hb_1
    refine lp (p_call Fun_184 rfl (fun w1 hw => m_i_hitsIn_ok hw.fro N x1 p1 p2 h1 ph1_0 ph2 hx2)) rfl <| ly rfl rfl <| la rfl <| la rfl ?_
    cases hb_1
    exact kk K ⟨rfl, rfl, rfl, rfl, rfl, rfl, trivial⟩
   ·refine la rfl <| la rfl <| la rfl <| la rfl <| la rfl <| la rfl ?_
    cases hb_1
    exact kk K ⟨rfl, rfl, rfl, rfl, rfl, rfl, trivial⟩
  refine en ?_
  refine cdh rfl h (fun c3 h => ?_) (fun c3 h => ?_)
  ·refine sr <| la rfl <| en ?_
   refine WT.ret Tryz.func150 (resOk.one rfl) (fun w1 hw => ?_)
   subst hb0
   cases h
   exact post_of_St hw
  refine WT.skip <| ib <| rgn <| la rfl <| la rfl <| en ?_
  exact lback (ih1 (IntKind.i64.wrap (s1 + 1)) h) ⟨rfl, rfl, rfl, rfl, rfl, trivial⟩ (fun w1 hw => (hw.sel (js := []) rfl).selO (js := [1]) rfl)
 refine xt rfl <| sr <| la rfl <| en ?_
 refine WT.ret Tryz.func150 (resOk.one rfl) (fun w1 hw => ?_)
 subst hb0
 cases h
 exact post_of_St hw
theorem m_i_ArgVal_ok {Φ : Hp} {w : World} (hΦ : In Φ w) (N : Nat) (p0 : TArg) (p1 : (List TBind)) {pv1 : Value} {pG1 : List Nat} (ph1 : RSl RTBind 4 Φ pG1 pv1 p1) {r : TVal × Bool} (h : m_i_ArgVal N p0 p1 = some r) :
  Calls Tryz.prog 204 [.agg [.int .i64 p0.K, .string p0.S, .int .i64 p0.V.K, .int .i64 p0.V.N, .string p0.V.S].toArray, pv1].toArray w (Post (.tuple #[.agg [.int .i64 r.1.K, .int .i64 r.1.N, .string r.1.S].toArray, .bool r.2]) w) := by
 refine enter Tryz.func204 rfl Tryz.ntmps204 rfl (St.start0 hΦ) ?_
 unfold m_i_ArgVal at h
 refine sr ?_
 refine ln (nb rfl) rfl (fun b_1 => ?_)
 refine ln (nz Zr_85) rfl (fun b_2 => ?_)
 refine la rfl <| en <| sq <| sr <| lf Fld_137_0 rfl rfl rfl <| lo T1_3 1 rfl <| en <| blk <| sr <| la rfl <| la rfl <| en ?_
 refine cdh rfl h (fun c1 h => ?_) (fun c1 h => ?_)
 ·refine sr <| lf Fld_137_2 rfl rfl rfl <| ld3 Tn_85 1 rfl <| soN 0 Sz_85 rfl ⟨rfl, rfl, rfl, trivial⟩ rfl ?_
  refine la rfl <| en ?_
  refine WT.ret Tryz.func204 (resOk.two (rv_cell Tn_85 rfl (fun w1 hw => hw.rgO (i := 0) rfl 0 3 [.int .i64 p0.V.K, .int .i64 p0.V.N, .string p0.V.S] rfl) rfl) rfl) (fun w1 hw => ?_)
  cases h
  exact post_of_St hw
 refine sr <| la rfl <| la rfl <| en ?_
 refine cdh rfl h (fun c2 h => ?_) (fun c2 h => ?_)
 ·refine sr <| la rfl <| lf Fld_137_1 rfl rfl rfl <| lo T1_9 1 rfl ?_
  obtain ⟨x1, hx1, h⟩ := bs h
  refine lp (p_call Fun_186 rfl (fun w1 hw => m_i_BindOf_ok hw.fro N p1 p0.S ph1 hx1)) rfl <| lq (q_extract rfl rfl) rfl <| lq (q_extract rfl rfl) rfl <| soN 0 Sz_85 rfl ⟨rfl, rfl, rfl, trivial⟩ rfl ?_
  refine la rfl <| en ?_
  refine WT.ret Tryz.func204 (resOk.two (rv_cell Tn_85 rfl (fun w1 hw => hw.rgO (i := 0) rfl 0 3 [.int .i64 x1.1.K, .int .i64 x1.1.N, .string x1.1.S] rfl) rfl) rfl) (fun w1 hw => ?_)
  cases h
  exact post_of_St hw
 refine WT.skip <| ib <| sr <| lq (q_build (vs := []) (C := #[.int .i64 0, .int .i64 0, .string (⟨#[]⟩ : ByteArray)]) Pl_85 Zr_85 rfl (fill_nil)) rfl <| soN 0 Sz_85 rfl ⟨rfl, rfl, rfl, trivial⟩ rfl ?_
 refine la rfl <| en ?_
 refine WT.ret Tryz.func204 (resOk.two (rv_cell Tn_85 rfl (fun w1 hw => hw.rgO (i := 0) rfl 0 3 [.int .i64 0, .int .i64 0, .string (⟨#[]⟩ : ByteArray)] rfl) rfl) rfl) (fun w1 hw => ?_)
 cases h
 exact post_of_St hw
theorem m_cmp_Or_int_ok {Φ : Hp} {w : World} (hΦ : In Φ w) (N : Nat) (p0 : (List Int)) {pv0 : Value} {pG0 : List Nat} (ph0 : RSl (RI .i64) 1 Φ pG0 pv0 p0) {r : Int} (h : m_cmp_Or_int N p0 = some r) :
  Calls Tryz.prog 213 [pv0].toArray w (Post (.int .i64 r) w) := by
 refine enter Tryz.func213 rfl Tryz.ntmps213 rfl (St.start0 hΦ) ?_
 generalize hb0 : (⟨w, [], Φ⟩ : Base) = w0
 unfold m_cmp_Or_int at h
 refine sr <| la rfl <| en <| sr <| la rfl <| en <| sq <| sr <| la rfl <| lq (q_lenR Sl_41 rfl rfl ph0) rfl <| la rfl <| en <| blk ?_
 refine loop_in (σ := Int) (fun s => [(3, .int .i64 0), (6, pv0), (7, .int .i64 (p0.length : Int)), (8, .int .i64 s)]) (fun s => St w0 Φ [] []) (fun m s => m_cmp_Or_int_l1 N p0 m s = some r) (0) N h ⟨rfl, rfl, rfl, rfl, trivial⟩ (fun w1 hw => (hw.sel (js := []) rfl).selO (js := []) rfl) (fun s hm => none_ne hm) (fun n1 ih1 s hm => ?_)
 revert hm; revert s; intro s1 hm
 have h : m_cmp_Or_int_l1 N p0 (n1 + 1) s1 = some r := hm
 show WT _ _ [(3, .int .i64 0), (6, pv0), (7, .int .i64 (p0.length : Int)), (8, .int .i64 s1)] (St w0 Φ [] [])
 unfold m_cmp_Or_int_l1 at h
 refine sr <| la rfl <| en <| sq ?_
 refine cdh rfl h (fun c1 h => ?_) (fun c1 h => ?_)
 ·refine WT.skip <| sq <| blk <| sr ?_
  obtain ⟨x1, hx1, h⟩ := bs h
  obtain ⟨cs1, F1, -, g1, hb1, hs1, r1⟩ := ph0.el (idx_some hx1).2.2
  obtain ⟨rfl, -⟩ := r1
  refine lq (q_indexAddr Sl_41 rfl rfl ph0 hx1) rfl <| lg 0 T1_3 g1 rfl rfl <| la rfl <| en <| sr <| la rfl <| la rfl <| la rfl <| en ?_
  refine cdh rfl h (fun c2 h => ?_) (fun c2 h => ?_)
  ·refine sr <| la rfl <| la rfl <| en ?_
   refine WT.ret Tryz.func213 (resOk.one rfl) (fun w1 hw => ?_)
   subst hb0
   cases h
   exact post_of_St hw
  refine WT.skip <| ib <| rgn <| la rfl <| la rfl <| en ?_
  exact lback (ih1 (IntKind.i64.wrap (s1 + 1)) h) ⟨rfl, rfl, rfl, rfl, trivial⟩ (fun w1 hw => (hw.sel (js := []) rfl).selO (js := []) rfl)
 refine xt rfl <| sr <| la rfl <| la rfl <| en ?_
 refine WT.ret Tryz.func213 (resOk.one rfl) (fun w1 hw => ?_)
 subst hb0
 cases h
 exact post_of_St hw
theorem m_cmp_isNaN_int_ok {Φ : Hp} {w : World} (hΦ : In Φ w) (N : Nat) (p0 : Int)   {r : Bool} (h : m_cmp_isNaN_int N p0 = some r) :
  Calls Tryz.prog 216 [.int .i64 p0].toArray w (Post (.bool r) w) := by
 refine enter Tryz.func216 rfl Tryz.ntmps216 rfl (St.start0 hΦ) ?_
 unfold m_cmp_isNaN_int at h
 refine sr <| la rfl <| en <| sr <| la rfl <| la rfl <| la rfl <| la rfl <| en ?_
 refine WT.ret Tryz.func216 (resOk.one rfl) (fun w1 hw => ?_)
 cases h
 exact post_of_St hw
theorem m_cmp_Compare_int_ok {Φ : Hp} {w : World} (hΦ : In Φ w) (N : Nat) (p0 : Int) (p1 : Int)   {r : Int} (h : m_cmp_Compare_int N p0 p1 = some r) :
  Calls Tryz.prog 214 [.int .i64 p0, .int .i64 p1].toArray w (Post (.int .i64 r) w) := by
 refine enter Tryz.func214 rfl Tryz.ntmps214 rfl (St.start0 hΦ) ?_
 unfold m_cmp_Compare_int at h
 refine sr <| la rfl <| en <| sr <| la rfl ?_
 obtain ⟨x1, hx1, h⟩ := bs h
 refine lp (p_call Fun_216 rfl (fun w1 hw => m_cmp_isNaN_int_ok hw.fro N p0 hx1)) rfl <| la rfl <| en <| sr <| la rfl ?_
 obtain ⟨x2, hx2, h⟩ := bs h
 refine lp (p_call Fun_216 rfl (fun w1 hw => m_cmp_isNaN_int_ok hw.fro N p1 hx2)) rfl <| la rfl <| en <| sq <| sr <| la rfl <| en ?_
 refine cdh rfl h (fun c1 h => ?_) (fun c1 h => ?_)
 ·refine sq <| sr <| la rfl <| en ?_
  refine cdh rfl h (fun c2 h => ?_) (fun c2 h => ?_)
  ·refine sr <| la rfl <| en ?_
   refine WT.ret Tryz.func214 (resOk.one rfl) (fun w1 hw => ?_)
   cases h
   exact post_of_St hw
  refine WT.skip <| sr <| la rfl <| en ?_
  refine WT.ret Tryz.func214 (resOk.one rfl) (fun w1 hw => ?_)
  cases h
  exact post_of_St hw
 refine WT.skip <| sq <| sr <| la rfl <| en ?_
 refine cdh rfl h (fun c3 h => ?_) (fun c3 h => ?_)
 ·refine sr <| la rfl <| en ?_
  refine WT.ret Tryz.func214 (resOk.one rfl) (fun w1 hw => ?_)
  cases h
  exact post_of_St hw
 refine WT.skip <| sq <| sr <| la rfl <| la rfl <| la rfl <| en ?_
 refine cdh rfl h (fun c4 h => ?_) (fun c4 h => ?_)
 ·refine sr <| la rfl <| en ?_
  refine WT.ret Tryz.func214 (resOk.one rfl) (fun w1 hw => ?_)
  cases h
  exact post_of_St hw
 refine WT.skip <| sq <| sr <| la rfl <| la rfl <| la rfl <| en ?_
 refine cdh rfl h (fun c5 h => ?_) (fun c5 h => ?_)
 ·refine sr <| la rfl <| en ?_
  refine WT.ret Tryz.func214 (resOk.one rfl) (fun w1 hw => ?_)
  cases h
  exact post_of_St hw
 refine WT.skip <| sr <| la rfl <| en ?_
 refine WT.ret Tryz.func214 (resOk.one rfl) (fun w1 hw => ?_)
 cases h
 exact post_of_St hw
theorem m_cmp_isNaN_string_ok {Φ : Hp} {w : World} (hΦ : In Φ w) (N : Nat) (p0 : ByteArray)   {r : Bool} (h : m_cmp_isNaN_string N p0 = some r) :
  Calls Tryz.prog 217 [.string p0].toArray w (Post (.bool r) w) := by
 refine enter Tryz.func217 rfl Tryz.ntmps217 rfl (St.start0 hΦ) ?_
 unfold m_cmp_isNaN_string at h
 refine sr <| la rfl <| en <| sr <| la rfl <| la rfl <| la rfl <| la rfl <| en ?_
 refine WT.ret Tryz.func217 (resOk.one rfl) (fun w1 hw => ?_)
 cases h
 exact post_of_St hw
theorem m_cmp_Compare_string_ok {Φ : Hp} {w : World} (hΦ : In Φ w) (N : Nat) (p0 : ByteArray) (p1 : ByteArray)   {r : Int} (h : m_cmp_Compare_string N p0 p1 = some r) :
  Calls Tryz.prog 215 [.string p0, .string p1].toArray w (Post (.int .i64 r) w) := by
 refine enter Tryz.func215 rfl Tryz.ntmps215 rfl (St.start0 hΦ) ?_
 unfold m_cmp_Compare_string at h
 refine sr <| la rfl <| en <| sr <| la rfl ?_
 obtain ⟨x1, hx1, h⟩ := bs h
 refine lp (p_call Fun_217 rfl (fun w1 hw => m_cmp_isNaN_string_ok hw.fro N p0 hx1)) rfl <| la rfl <| en <| sr <| la rfl ?_
 obtain ⟨x2, hx2, h⟩ := bs h
 refine lp (p_call Fun_217 rfl (fun w1 hw => m_cmp_isNaN_string_ok hw.fro N p1 hx2)) rfl <| la rfl <| en <| sq <| sr <| la rfl <| en ?_
 refine cdh rfl h (fun c1 h => ?_) (fun c1 h => ?_)
 ·refine sq <| sr <| la rfl <| en ?_
  refine cdh rfl h (fun c2 h => ?_) (fun c2 h => ?_)
  ·refine sr <| la rfl <| en ?_
   refine WT.ret Tryz.func215 (resOk.one rfl) (fun w1 hw => ?_)
   cases h
   exact post_of_St hw
  refine WT.skip <| sr <| la rfl <| en ?_
  refine WT.ret Tryz.func215 (resOk.one rfl) (fun w1 hw => ?_)
  cases h
  exact post_of_St hw
 refine WT.skip <| sq <| sr <| la rfl <| en ?_
 refine cdh rfl h (fun c3 h => ?_) (fun c3 h => ?_)
 ·refine sr <| la rfl <| en ?_
  refine WT.ret Tryz.func215 (resOk.one rfl) (fun w1 hw => ?_)
  cases h
  exact post_of_St hw
 refine WT.skip <| sq <| sr <| la rfl <| la rfl <| lq (q_slt rfl rfl) rfl <| en ?_
 refine cdh rfl h (fun c4 h => ?_) (fun c4 h => ?_)
 ·refine sr <| la rfl <| en ?_
  refine WT.ret Tryz.func215 (resOk.one rfl) (fun w1 hw => ?_)
  cases h
  exact post_of_St hw
 refine WT.skip <| sq <| sr <| la rfl <| la rfl <| lq (q_sgt rfl rfl) rfl <| en ?_
 refine cdh rfl h (fun c5 h => ?_) (fun c5 h => ?_)
 ·refine sr <| la rfl <| en ?_
  refine WT.ret Tryz.func215 (resOk.one rfl) (fun w1 hw => ?_)
  cases h
  exact post_of_St hw
 refine WT.skip <| sr <| la rfl <| en ?_
 refine WT.ret Tryz.func215 (resOk.one rfl) (fun w1 hw => ?_)
 cases h
 exact post_of_St hw
theorem m_i_compareVals_ok {Φ : Hp} {w : World} (hΦ : In Φ w) (N : Nat) (p0 : TVal) (p1 : TVal)   {r : Int} (h : m_i_compareVals N p0 p1 = some r) :
  Calls Tryz.prog 212 [.agg [.int .i64 p0.K, .int .i64 p0.N, .string p0.S].toArray, .agg [.int .i64 p1.K, .int .i64 p1.N, .string p1.S].toArray].toArray w (Post (.int .i64 r) w) := by
 refine enter Tryz.func212 rfl Tryz.ntmps212 rfl (St.start0 hΦ) ?_
 unfold m_i_compareVals at h
 refine sr ?_
 refine ln (nb rfl) rfl (fun b_1 => ?_)
 refine ln (nb rfl) rfl (fun b_2 => ?_)
 refine la rfl <| en <| sq <| WT.mix (Kn Φ [] [(b_2, .cells #[.int .i64 p1.K, .int .i64 p1.N, .string p1.S] 85 (0, 0)), (b_1, .cells #[.int .i64 p0.K, .int .i64 p0.N, .string p0.S] 85 (0, 0))]) (fun _ => true) mixed (fun _ h => h.drew) <| mq 0 rfl (by kernel_rfl) (kn Kf.nil (ai2 0 1 rfl rfl)) (q_fieldAddr Fld_85_0 rfl) rfl <| mq 1 rfl (by kernel_rfl) (kn Kf.nil (ai2 0 1 rfl rfl)) (q_load1 T1_3 rfl (fun w1 hw => hw.rgO (i := 1) rfl 0 1 [.int .i64 p0.K] rfl)) rfl ?_
 refine mq 2 rfl (by kernel_rfl) (kn Kf.nil (ai2 0 1 rfl rfl)) (q_fieldAddr Fld_85_0 rfl) rfl <| mq 3 rfl (by kernel_rfl) (kn Kf.nil (ai2 0 1 rfl rfl)) (q_load1 T1_3 rfl (fun w1 hw => hw.rgO (i := 0) rfl 0 1 [.int .i64 p1.K] rfl)) rfl <| mq 5 rfl (by kernel_rfl) (kn Kf.nil (ai2 0 1 rfl rfl)) (q_fieldAddr Fld_85_1 rfl) rfl <| mq 6 rfl (by kernel_rfl) (kn Kf.nil (ai2 0 1 rfl rfl)) (q_load1 T1_3 rfl (fun w1 hw => hw.rgO (i := 1) rfl 1 1 [.int .i64 p0.N] rfl)) rfl ?_
 refine mq 7 rfl (by kernel_rfl) (kn Kf.nil (ai2 0 1 rfl rfl)) (q_fieldAddr Fld_85_1 rfl) rfl <| mq 8 rfl (by kernel_rfl) (kn Kf.nil (ai2 0 1 rfl rfl)) (q_load1 T1_3 rfl (fun w1 hw => hw.rgO (i := 0) rfl 1 1 [.int .i64 p1.N] rfl)) rfl <| mq 10 rfl (by kernel_rfl) (kn Kf.nil (ai2 0 1 rfl rfl)) (q_fieldAddr Fld_85_2 rfl) rfl <| mq 11 rfl (by kernel_rfl) (kn Kf.nil (ai2 0 1 rfl rfl)) (q_load1 T1_9 rfl (fun w1 hw => hw.rgO (i := 1) rfl 2 1 [.string p0.S] rfl)) rfl ?_
 refine mq 12 rfl (by kernel_rfl) (kn Kf.nil (ai2 0 1 rfl rfl)) (q_fieldAddr Fld_85_2 rfl) rfl <| mq 13 rfl (by kernel_rfl) (kn Kf.nil (ai2 0 1 rfl rfl)) (q_load1 T1_9 rfl (fun w1 hw => hw.rgO (i := 0) rfl 2 1 [.string p1.S] rfl)) rfl ?_
 obtain ⟨x1, hx1, h⟩ := bs h
 refine WM.one 4 (by kernel_rfl) (mp rfl (fun _ w1 hw => Kn.of Kf.nil (ai2 0 1 rfl rfl) hw) (p_call Fun_214 rfl (fun w1 hw => m_cmp_Compare_int_ok hw.fro N p0.K p1.K hx1)) rfl ?_)
 obtain ⟨x2, hx2, h⟩ := bs h
 refine WM.one 9 (by kernel_rfl) (mp rfl (fun _ w1 hw => Kn.of Kf.nil (ai2 0 1 rfl rfl) hw) (p_call Fun_214 rfl (fun w1 hw => m_cmp_Compare_int_ok hw.fro N p0.N p1.N hx2)) rfl ?_)
 obtain ⟨x3, hx3, h⟩ := bs h
 refine WM.one 14 (by kernel_rfl) (mp rfl (fun _ w1 hw => Kn.of Kf.nil (ai2 0 1 rfl rfl) hw) (p_call Fun_215 rfl (fun w1 hw => m_cmp_Compare_string_ok hw.fro N p0.S p1.S hx3)) rfl ?_)
 have rc1 : RC (RI .i64) 1 Φ ([[], [], []] : List (List Nat)) [.int .i64 x1, .int .i64 x2, .int .i64 x3] ([x1, x2, x3] : List Int) := RC.cons (c := [.int .i64 x1]) (cells := [.int .i64 x2, .int .i64 x3]) ⟨rfl, rfl⟩ rfl (RC.cons (c := [.int .i64 x2]) (cells := [.int .i64 x3]) ⟨rfl, rfl⟩ rfl (RC.cons (c := [.int .i64 x3]) (cells := []) ⟨rfl, rfl⟩ rfl (RC.nil _ _ _)))
 refine WM.one 15 (by kernel_rfl) (me rfl (fun _ v Φx D w1 hq hw => Kn.of Kf.nil (ai2 0 1 rfl rfl) hw) (e_lit (vs := [(0, .int .i64 x1), (1, .int .i64 x2), (2, .int .i64 x3)]) (C := #[.int .i64 x1, .int .i64 x2, .int .i64 x3]) RI.lasts Sl_41 Zr_3 rfl rfl rfl rfl (fill_made MC_3_3 (fill_cons (C' := [.int .i64 x1, .int .i64 0, .int .i64 0]) rfl rfl rfl rfl rfl (fill_cons (C' := [.int .i64 x1, .int .i64 x2, .int .i64 0]) rfl rfl rfl rfl rfl (fill_cons (C' := [.int .i64 x1, .int .i64 x2, .int .i64 x3]) rfl rfl rfl rfl rfl (fill_nil))))) rfl rc1 rfl (by simpa using Kw.nil)) rfl (fun v1 Φ_1 D1 q1 => ?_))
 obtain ⟨fr1, h1⟩ := q1
 replace h1 : OSl (RI .i64) 3 1 Φ_1 [] v1 ([x1, x2, x3] : List Int) := by simpa using h1
 obtain ⟨x4, hx4, h⟩ := bs h
 refine WM.one 16 (by kernel_rfl) (mp rfl (fun _ w1 hw => Kn.of Kf.nil (ai2 0 1 rfl rfl) hw) (p_call Fun_213 rfl (fun w1 hw => m_cmp_Or_int_ok hw.fro N ([x1, x2, x3] : List Int) h1.rsl hx4)) rfl ?_)
 refine ma 17 rfl (by kernel_rfl) (kn Kf.nil (ai2 0 1 rfl rfl)) rfl <| WM.nil (by kernel_rfl) ?_
 refine WT.ret Tryz.func212 (resOk.one rfl) (fun w1 hw => ?_)
 cases h
 exact post_of_St hw
theorem m_i_LessVal_ok {Φ : Hp} {w : World} (hΦ : In Φ w) (N : Nat) (p0 : TVal) (p1 : TVal)   {r : Bool} (h : m_i_LessVal N p0 p1 = some r) :
  Calls Tryz.prog 205 [.agg [.int .i64 p0.K, .int .i64 p0.N, .string p0.S].toArray, .agg [.int .i64 p1.K, .int .i64 p1.N, .string p1.S].toArray].toArray w (Post (.bool r) w) := by
 refine enter Tryz.func205 rfl Tryz.ntmps205 rfl (St.start0 hΦ) ?_
 unfold m_i_LessVal at h
 refine sr ?_
 refine ln (nb rfl) rfl (fun b_1 => ?_)
 refine ln (nb rfl) rfl (fun b_2 => ?_)
 refine la rfl <| en <| sr <| ld3 Tn_85 1 rfl <| ld3 Tn_85 0 rfl ?_
 obtain ⟨x1, hx1, h⟩ := bs h
 refine lp (p_call Fun_212 rfl (fun w1 hw => m_i_compareVals_ok hw.fro N p0 p1 hx1)) rfl <| la rfl <| la rfl <| en ?_
 refine WT.ret Tryz.func205 (resOk.one rfl) (fun w1 hw => ?_)
 cases h
 exact post_of_St hw
theorem m_i_Holds_ok {Φ : Hp} {w : World} (hΦ : In Φ w) (N : Nat) (p0 : TCond) (p1 : (List TBind)) {pv1 : Value} {pG1 : List Nat} (ph1 : RSl RTBind 4 Φ pG1 pv1 p1) {r : Bool} (h : m_i_Holds N p0 p1 = some r) :
  Calls Tryz.prog 185 [.agg [.int .i64 p0.Op, .int .i64 p0.L.K, .string p0.L.S, .int .i64 p0.L.V.K, .int .i64 p0.L.V.N, .string p0.L.V.S, .int .i64 p0.R.K, .string p0.R.S, .int .i64 p0.R.V.K, .int .i64 p0.R.V.N, .string p0.R.V.S].toArray, pv1].toArray w (Post (.bool r) w) := by
 refine enter Tryz.func185 rfl Tryz.ntmps185 rfl (St.start0 hΦ) ?_
 unfold m_i_Holds at h
 refine sr ?_
 refine ln (nb rfl) rfl (fun b_1 => ?_)
 refine la rfl <| en <| sr <| lf Fld_139_1 rfl rfl rfl <| ld5 Tn_137 0 rfl <| la rfl ?_
 obtain ⟨x1, hx1, h⟩ := bs h
 refine lp (p_call Fun_204 rfl (fun w1 hw => m_i_ArgVal_ok hw.fro N p0.L p1 ph1 hx1)) rfl <| la rfl <| lq (q_extract rfl rfl) rfl <| lq (q_extract rfl rfl) rfl ?_
 refine ln (nz Zr_85) rfl (fun b_2 => ?_)
 refine soN 0 Sz_85 rfl ⟨rfl, rfl, rfl, trivial⟩ rfl ?_
 refine la rfl <| en <| sr <| lf Fld_139_2 rfl rfl rfl <| ld5 Tn_137 1 rfl <| la rfl ?_
 obtain ⟨x2, hx2, h⟩ := bs h
 refine lp (p_call Fun_204 rfl (fun w1 hw => m_i_ArgVal_ok hw.fro N p0.R p1 ph1 hx2)) rfl <| la rfl <| lq (q_extract rfl rfl) rfl <| lq (q_extract rfl rfl) rfl ?_
 refine ln (nz Zr_85) rfl (fun b_3 => ?_)
 refine soN 0 Sz_85 rfl ⟨rfl, rfl, rfl, trivial⟩ rfl ?_
 refine la rfl <| en <| sq <| sr <| la rfl <| la rfl <| la rfl ?_
 obtain ⟨b1, hb_1, h⟩ := bs h
 refine WL.cutN 3 [(28, .bool b1), (2, .pointer (some ⟨b_1, 0, none⟩)), (5, .pointer (some ⟨b_2, 0, none⟩)), (7, .pointer (some ⟨b_3, 0, none⟩))] ?_ (fun K => ?_)
 rotate_left
 ·refine spl 25 rfl hb_1 (fun c1 hb_1 => ?_) (fun c1 hb_1 => ?_)
  ·refine la rfl <| la rfl <| la rfl ?_
   cases hb_1
   exact kk K ⟨rfl, rfl, rfl, rfl, trivial⟩
  ·refine ly rfl rfl <| la rfl <| ly rfl rfl <| la rfl <| la rfl ?_
   cases hb_1
   exact kk K ⟨rfl, rfl, rfl, rfl, trivial⟩
 refine en ?_
 refine cdh rfl h (fun c2 h => ?_) (fun c2 h => ?_)
 ·refine sr <| la rfl <| en ?_
  refine WT.ret Tryz.func185 (resOk.one rfl) (fun w1 hw => ?_)
  cases h
  exact post_of_St hw
 refine WT.skip <| sq <| sr <| lf Fld_139_0 rfl rfl rfl <| lo T1_3 2 rfl <| en <| blk <| sr <| la rfl <| la rfl <| en ?_
 refine cdh rfl h (fun c3 h => ?_) (fun c3 h => ?_)
 ·refine sr <| ld3 Tn_85 1 rfl <| ld3 Tn_85 0 rfl <| lq (q_eqA EqT_85 rfl rfl rfl (r := eqT_TVal x1.1 x2.1) rfl) rfl <| la rfl <| en ?_
  refine WT.ret Tryz.func185 (resOk.one rfl) (fun w1 hw => ?_)
  cases h
  exact post_of_St hw
 refine sr <| la rfl <| la rfl <| en ?_
 refine cdh rfl h (fun c4 h => ?_) (fun c4 h => ?_)
 ·refine sr <| ld3 Tn_85 1 rfl <| ld3 Tn_85 0 rfl <| lq (q_neA EqT_85 rfl rfl rfl (r := eqT_TVal x1.1 x2.1) rfl) rfl <| la rfl <| en ?_
  refine WT.ret Tryz.func185 (resOk.one rfl) (fun w1 hw => ?_)
  cases h
  exact post_of_St hw
 refine sr <| la rfl <| la rfl <| en ?_
 refine cdh rfl h (fun c5 h => ?_) (fun c5 h => ?_)
 ·refine sr <| ld3 Tn_85 1 rfl <| ld3 Tn_85 0 rfl ?_
  obtain ⟨x3, hx3, h⟩ := bs h
  refine lp (p_call Fun_205 rfl (fun w1 hw => m_i_LessVal_ok hw.fro N x1.1 x2.1 hx3)) rfl <| la rfl <| en ?_
  refine WT.ret Tryz.func185 (resOk.one rfl) (fun w1 hw => ?_)
  cases h
  exact post_of_St hw
 refine WT.skip <| ib <| sr <| la rfl <| en ?_
 refine WT.ret Tryz.func185 (resOk.one rfl) (fun w1 hw => ?_)
 cases h
 exact post_of_St hw
theorem m_i_HoldAll_ok {Φ : Hp} {w : World} (hΦ : In Φ w) (N : Nat) (p0 : (List TCond)) (p1 : (List TBind)) {pv0 pv1 : Value} {pG0 pG1 : List Nat} (ph0 : RSl RTCond 11 Φ pG0 pv0 p0) (ph1 : RSl RTBind 4 Φ pG1 pv1 p1) {r : Bool} (h : m_i_HoldAll N p0 p1 = some r) :
  Calls Tryz.prog 151 [pv0, pv1].toArray w (Post (.bool r) w) := by
 refine enter Tryz.func151 rfl Tryz.ntmps151 rfl (St.start0 hΦ) ?_
 generalize hb0 : (⟨w, [], Φ⟩ : Base) = w0
 unfold m_i_HoldAll at h
 refine sr <| la rfl <| en <| sq <| sr <| la rfl <| lq (q_lenR Sl_37 rfl rfl ph0) rfl <| la rfl <| en <| blk ?_
 refine loop_in (σ := Int) (fun s => [(1, pv1), (7, pv0), (8, .int .i64 (p0.length : Int)), (9, .int .i64 s)]) (fun s => St w0 Φ [] []) (fun m s => m_i_HoldAll_l1 N p0 p1 m s = some r) (0) N h ⟨rfl, rfl, rfl, rfl, trivial⟩ (fun w1 hw => (hw.sel (js := []) rfl).selO (js := []) rfl) (fun s hm => none_ne hm) (fun n1 ih1 s hm => ?_)
 revert hm; revert s; intro s1 hm
 have h : m_i_HoldAll_l1 N p0 p1 (n1 + 1) s1 = some r := hm
 show WT _ _ [(1, pv1), (7, pv0), (8, .int .i64 (p0.length : Int)), (9, .int .i64 s1)] (St w0 Φ [] [])
 unfold m_i_HoldAll_l1 at h
 refine sr <| la rfl <| en <| sq ?_
 refine cdh rfl h (fun c1 h => ?_) (fun c1 h => ?_)
 ·refine WT.skip <| sq <| blk <| sr ?_
  obtain ⟨x1, hx1, h⟩ := bs h
  obtain ⟨cs1, F1, -, g1, hb1, hs1, r1⟩ := ph0.el (idx_some hx1).2.2
  obtain ⟨rfl, -⟩ := r1
  refine lq (q_indexAddr Sl_37 rfl rfl ph0 hx1) rfl <| lg11 0 Tn_139 g1 rfl rfl ?_
  refine ln (nz Zr_139) rfl (fun b_1 => ?_)
  refine soN 0 Sz_139 rfl ⟨rfl, rfl, rfl, rfl, rfl, rfl, rfl, rfl, rfl, rfl, rfl, trivial⟩ rfl ?_
  refine en <| sr <| ld11 Tn_139 0 rfl <| la rfl ?_
  obtain ⟨x2, hx2, h⟩ := bs h
  refine lp (p_call Fun_185 rfl (fun w1 hw => m_i_Holds_ok hw.fro N x1 p1 ph1 hx2)) rfl <| la rfl <| en ?_
  refine cdh rfl h (fun c2 h => ?_) (fun c2 h => ?_)
  ·refine sr <| la rfl <| en ?_
   refine WT.ret Tryz.func151 (resOk.one rfl) (fun w1 hw => ?_)
   subst hb0
   cases h
   exact post_of_St hw
  refine WT.skip <| ib <| rgn <| la rfl <| la rfl <| en ?_
  exact lback (ih1 (IntKind.i64.wrap (s1 + 1)) h) ⟨rfl, rfl, rfl, rfl, trivial⟩ (fun w1 hw => (hw.sel (js := []) rfl).selO (js := []) rfl)
 refine xt rfl <| sr <| la rfl <| en ?_
 refine WT.ret Tryz.func151 (resOk.one rfl) (fun w1 hw => ?_)
 subst hb0
 cases h
 exact post_of_St hw
theorem m_sl_Clone_Sint_int_ok {Φ : Hp} {w : World} (hΦ : In Φ w) (N : Nat) (p0 : (List Int)) {pv0 : Value} {pG0 : List Nat} (ph0 : RSl (RI .i64) 1 Φ pG0 pv0 p0) {r : (List Int)} (h : m_sl_Clone_Sint_int N p0 = some r) :
  Calls Tryz.prog 152 [pv0].toArray w (PostG Φ w [] (fun Φ' Fs v => ∃ (sr_0_0 : Value), v = sr_0_0 ∧ Fs = [ob sr_0_0] ∧ OSl (RI .i64) 3 1 Φ' [] sr_0_0 r)) := by
 refine enter Tryz.func152 rfl Tryz.ntmps152 rfl (St.start0 hΦ) ?_
 unfold m_sl_Clone_Sint_int at h
 refine sr <| la rfl <| en <| sq <| sq ?_
 rcases RSl.nilOr ph0 with ⟨hxs1, cc1, hv1⟩ | ⟨a1, cc1, hv1⟩
 ·replace h : some [] = some r := by simpa [hxs1, app] using h
  refine rgn <| la rfl <| lq (q_eqNil Sl_41 (congrArg some hv1) rfl) rfl <| en ?_
  refine cd rfl (fun c => ?_) (fun c => by simp at c)
  refine sr <| la rfl <| en ?_
  refine WT.ret Tryz.func152 (resOk.one rfl) (fun w1 hw => ?_)
  cases h
  replace hw := hw.addNil
  refine postG_of_St (js := [0]) hw rfl ⟨.slice none 0 0, rfl, rfl, OSl.nil _ _ _ _⟩
 refine rgn <| la rfl <| lq (q_eqNil Sl_41 (congrArg some hv1) rfl) rfl <| en ?_
 refine cd rfl (fun c => by simp at c) (fun c => ?_)
 refine WT.skip <| sr ?_
 refine le' (e_lit0 (R := RI .i64) RI.lasts Sl_41 Zr_3 rfl rfl) rfl (fun v1 Φ_1 D1 q1 => ?_)
 obtain ⟨fr1, h1⟩ := q1
 replace ph0 := ph0.frame RI.lasts fr1 (Dj.empty _)
 refine la rfl ?_
 obtain ⟨x1, hx1, h⟩ := bs h
 refine le' (e_appF RI.lasts RI.one RI.flat Sl_41 Ei_3 rfl rfl rfl rfl rfl (js := [0]) (Rr := []) rfl h1 ph0 hx1) rfl (fun v2 Φ_2 D2 q2 => ?_)
 obtain ⟨⟨ap1, fr2⟩, h2⟩ := q2
 refine la rfl <| en ?_
 refine WT.ret Tryz.func152 (resOk.one rfl) (fun w1 hw => ?_)
 cases h
 refine postG_of_St (js := [0]) hw rfl ⟨v2, rfl, rfl, h2⟩
theorem m_i_addRows_ok (N : Nat) : ∀ {Φ : Hp} {w : World} (hΦ : In Φ w) (p0 : (List TMatch)) (p1 : TRule) (p2 : TStore) (p3 : (List Int)) (p4 : (List TBind)) {pv0 pv1_0 pv1_1 pv1_2 pv2_0 pv3 pv4 : Value} {pD0 pG1_0 pG1_1 pG1_2 pG2_0 pG3 pG4 : List Nat} {pb0 : Nat} (ph0 : OSl OTMatch 44 3 Φ pD0 pv0 p0) (pp0 : Φ pb0 = some (.cells #[pv0] 32 (0, 0))) (ph1_0 : RSl RTPat 3 Φ pG1_0 pv1_0 p1.Pats) (ph1_1 : RSl RTCond 11 Φ pG1_1 pv1_1 p1.Conds) (ph1_2 : RSl RTAct 5 Φ pG1_2 pv1_2 p1.Acts) (ph2_0 : RSl RTItem 3 Φ pG2_0 pv2_0 p2.Items) (ph3 : RSl (RI .i64) 1 Φ pG3 pv3 p3) (ph4 : RSl RTBind 4 Φ pG4 pv4 p4) (pd1_0 : Dj pG1_0 [[pb0], ob pv0, pD0].flatten) (pd1_1 : Dj pG1_1 [[pb0], ob pv0, pD0].flatten) (pd1_2 : Dj pG1_2 [[pb0], ob pv0, pD0].flatten) (pd2_0 : Dj pG2_0 [[pb0], ob pv0, pD0].flatten) (pd3 : Dj pG3 [[pb0], ob pv0, pD0].flatten) (pd4 : Dj pG4 [[pb0], ob pv0, pD0].flatten) (hB : [[pb0], ob pv0, pD0].flatten.Nodup) (hlt : ∀ k ∈ [[pb0], ob pv0, pD0].flatten, k < w.heap.size) {r : (List TMatch)} (h : m_i_addRows N p0 p1 p2 p3 p4 = some r),
  Calls Tryz.prog 98 [.pointer (some ⟨pb0, 0, none⟩), .agg [.string p1.Name, .int .i64 p1.Sal, pv1_0, pv1_1, pv1_2].toArray, .agg [pv2_0, .int .i64 p2.Next].toArray, pv3, pv4].toArray w (PostG Φ w [[pb0], ob pv0, pD0].flatten (fun Φ' Fs v => ∃ (so_0_0 : Value) (Do_0_0 : List Nat), v = .tuple #[] ∧ Fs = [[pb0], ob so_0_0, Do_0_0] ∧ OSl OTMatch 44 3 Φ' Do_0_0 so_0_0 r ∧ Φ' pb0 = some (.cells #[so_0_0] 32 (0, 0)))) := by
 induction N with
 | zero => intros; rename_i h; simp [m_i_addRows] at h
 | succ N ih =>
 intro Φ w hΦ p0 p1 p2 p3 p4 pv0 pv1_0 pv1_1 pv1_2 pv2_0 pv3 pv4 pD0 pG1_0 pG1_1 pG1_2 pG2_0 pG3 pG4 pb0 ph0 pp0 ph1_0 ph1_1 ph1_2 ph2_0 ph3 ph4 pd1_0 pd1_1 pd1_2 pd2_0 pd3 pd4 hB hlt r h
 refine enter Tryz.func98 rfl Tryz.ntmps98 rfl (St.start hΦ [[pb0], ob pv0, pD0] hB hlt) ?_
 have pa1_0 := Old.mk hΦ ph1_0.kn pd1_0
 have pa1_1 := Old.mk hΦ ph1_1.kn pd1_1
 have pa1_2 := Old.mk hΦ ph1_2.kn pd1_2
 have pa2_0 := Old.mk hΦ ph2_0.kn pd2_0
 have pa3 := Old.mk hΦ ph3.kn pd3
 have pa4 := Old.mk hΦ ph4.kn pd4
 revert pa1_0 pa1_1 pa1_2 pa2_0 pa3 pa4
 generalize hb0 : (⟨w, [[pb0], ob pv0, pD0].flatten, Φ⟩ : Base) = w0
 intro pa1_0 pa1_1 pa1_2 pa2_0 pa3 pa4
 unfold m_i_addRows at h
 refine sr ?_
 refine ln (nb rfl) rfl (fun b_1 => ?_)
 refine ln (nb rfl) rfl (fun b_2 => ?_)
 refine en <| sr <| ld5 Tn_40 1 rfl ?_
 obtain ⟨x1, hx1, h⟩ := bs h
 refine lc (k_call (js := []) (R := [[pb0], ob pv0, pD0]) Fun_149 rfl rfl (fun w1 hw ap hl => m_i_pats_ok hw.fro N p1 false ph1_0 ph1_1 ph1_2  hx1)) rfl (fun v1 Φ_1 F1 q1 => ?_)
 obtain ⟨ap1, fr1, v2, D1, rfl, rfl, h1, i1⟩ := q1
 replace ph3 := ph3.frame RI.lasts fr1 (ap1.o pa3)
 replace ph4 := ph4.frame RTBind.lasts fr1 (ap1.o pa4)
 replace ph1_0 := ph1_0.frame RTPat.lasts fr1 (ap1.o pa1_0)
 replace ph1_1 := ph1_1.frame RTCond.lasts fr1 (ap1.o pa1_1)
 replace ph1_2 := ph1_2.frame RTAct.lasts fr1 (ap1.o pa1_2)
 replace ph2_0 := ph2_0.frame RTItem.lasts fr1 (ap1.o pa2_0)
 replace ph0 := ph0.frame OTMatch.lasts fr1 (ap1.r (i := 1) rfl) (ap1.r (i := 2) rfl)
 replace pp0 := fr1 _ _ ((ap1.r (i := 0) rfl) _ (by simp)) pp0
 refine la rfl <| en <| sq <| sr <| la rfl <| lq (q_lenR Sl_41 rfl rfl ph3) rfl <| la rfl <| lq (q_lenR Sl_36 rfl rfl h1.rsl) rfl <| la rfl <| en ?_
 refine cdh rfl h (fun c1 h => ?_) (fun c1 h => ?_)
 ·refine sq <| sr <| ld5 Tn_40 1 rfl <| ld2 Tn_29 0 rfl <| la rfl ?_
  obtain ⟨x2, hx2, h⟩ := bs h
  refine lp (p_call Fun_150 rfl (fun w1 hw => m_i_Blocked_ok hw.fro N p1 p2 p4 ph1_0 ph1_1 ph1_2 ph2_0 ph4 hx2)) rfl <| la rfl <| la rfl ?_
  obtain ⟨b1, hb_1, h⟩ := bs h
  refine WL.cutN 5 [(32, .bool b1), (0, .pointer (some ⟨pb0, 0, none⟩)), (3, pv3), (4, pv4)] ?_ (fun K => ?_)
  rotate_left
  ·refine spl 27 rfl hb_1 (fun c2 hb_1 => ?_) (fun c2 hb_1 => ?_)
   ·refine ly rfl rfl <| lf Fld_40_3 rfl rfl rfl <| ly rfl rfl <| lo T1_37 1 rfl <| ly rfl rfl <| la rfl <| ly rfl rfl ?_
    obtain ⟨x3, hx3, hb_1⟩ := bs hb_1
    refine lp (p_call Fun_151 rfl (fun w1 hw => m_i_HoldAll_ok hw.fro N p1.Conds p4 ph1_1 ph4 hx3)) rfl <| la rfl ?_
    cases hb_1
    exact kk K ⟨rfl, rfl, rfl, rfl, trivial⟩
   ·refine la rfl <| la rfl <| la rfl <| la rfl <| la rfl ?_
    cases hb_1
    exact kk K ⟨rfl, rfl, rfl, rfl, trivial⟩
  refine en ?_
  refine cdh rfl h (fun c3 h => ?_) (fun c3 h => ?_)
  ·refine WT.mix (Kn Φ_1 [pb0] [(b_2, .cells #[pv2_0, .int .i64 p2.Next] 29 (0, 0)), (b_1, .cells #[.string p1.Name, .int .i64 p1.Sal, pv1_0, pv1_1, pv1_2] 40 (0, 0))]) (fun i => match i with | 12 => false | _ => true) mixed (fun _ h => h.drew) <| ma 0 rfl (by kernel_rfl) (kn Kf.id (ai2 0 1 rfl rfl)) rfl <| ma 1 rfl (by kernel_rfl) (kn Kf.id (ai2 0 1 rfl rfl)) rfl <| mq 2 rfl (by kernel_rfl) (kn Kf.id (ai2 0 1 rfl rfl)) (q_nilCheck rfl) rfl ?_
   refine mq 3 rfl (by kernel_rfl) (kn Kf.id (ai2 0 1 rfl rfl)) (q_load1 T1_32 rfl (fun w1 hw => hw.rg (by simp) ((rg_cells pp0).of_eq 0 1 rfl rfl : rg _ _ _ [pv0]))) rfl <| ma 4 rfl (by kernel_rfl) (kn Kf.id (ai2 0 1 rfl rfl)) rfl <| ma 6 rfl (by kernel_rfl) (kn Kf.id (ai2 0 1 rfl rfl)) rfl ?_
   obtain ⟨x4, hx4, h⟩ := bs h
   refine WM.one 5 (by kernel_rfl) (mc rfl (fun _ v Φx D w1 hq hw => Kn.of (Kf.id.st hq.2.1 (hq.1.r (i := 1) rfl)) (ai2 0 1 rfl rfl) hw) (k_call (js := []) (R := [ob v1, [pb0], ob pv0, pD0]) Fun_152 rfl rfl (fun w1 hw ap hl => m_sl_Clone_Sint_int_ok hw.fro N p3 ph3  hx4)) rfl (fun v3 Φ_2 F2 q2 => ?_))
   obtain ⟨ap2, fr2, v4, rfl, rfl, h2⟩ := q2
   replace ph4 := ph4.frame RTBind.lasts fr2 (ap2.o pa4)
   replace ph0 := ph0.frame OTMatch.lasts fr2 (ap2.r (i := 2) rfl) (ap2.r (i := 3) rfl)
   replace pp0 := fr2 _ _ ((ap2.r (i := 1) rfl) _ (by simp)) pp0
   obtain ⟨x5, hx5, h⟩ := bs h
   have kf1 := (Kf.id (F := [pb0]) : Kf Φ_1 _ _).st fr2 (ap2.r (i := 1) rfl)
   refine WM.one 7 (by kernel_rfl) (mc rfl (fun _ v Φx D w1 hq hw => Kn.of (kf1.st hq.2.1 (hq.1.r (i := 2) rfl)) (ai2 0 1 rfl rfl) hw) (k_call (js := []) (R := [ob v3, ob v1, [pb0], ob pv0, pD0]) Fun_153 rfl rfl (fun w1 hw ap hl => m_sl_Clone_Si_Bind_i_Bind_ok hw.fro N p4 ph4  hx5)) rfl (fun v5 Φ_3 F3 q3 => ?_))
   obtain ⟨ap3, fr3, v6, rfl, rfl, h3⟩ := q3
   replace ph0 := ph0.frame OTMatch.lasts fr3 (ap3.r (i := 3) rfl) (ap3.r (i := 4) rfl)
   replace h2 := h2.frame RI.lasts fr3 (ap3.r (i := 0) rfl) (Dj.nil _)
   replace pp0 := fr3 _ _ ((ap3.r (i := 2) rfl) _ (by simp)) pp0
   have kf2 := kf1.st fr3 (ap3.r (i := 2) rfl)
   refine mq 8 rfl (by kernel_rfl) (kn kf2 (ai2 0 1 rfl rfl)) (q_build (vs := [(1, v3), (2, v5)]) (C := #[.int .i64 0, v3, v5]) Pl_44 Zr_44 rfl (fill_cons (C' := [.int .i64 0, v3, .slice none 0 0]) rfl (one_cells h2.one) rfl rfl rfl (fill_cons (C' := [.int .i64 0, v3, v5]) rfl (one_cells h3.one) rfl rfl rfl (fill_nil)))) rfl ?_
   have rc1 : RC OTMatch 3 Φ_3 ([(ob v3 ++ []) ++ ((ob v5 ++ []))] : List (List Nat)) [.int .i64 0, v3, v5] ([(⟨0, x4, x5⟩ : TMatch)] : List TMatch) := RC.cons (c := [.int .i64 0, v3, v5]) (cells := []) ⟨v3, v5, rfl, rfl, h2, h3⟩ rfl (RC.nil _ _ _)
   refine WM.one 9 (by kernel_rfl) (me rfl (fun _ v Φx D w1 hq hw => Kn.of (kf2.se hq.1) (ai2 0 1 rfl rfl) hw) (e_lit (vs := [(0, .agg [.int .i64 0, v3, v5].toArray)]) (C := #[.int .i64 0, v3, v5]) OTMatch.lasts Sl_32 Zr_44 rfl rfl rfl rfl (fill_made MC_44_1 (fill_cons (C' := [.int .i64 0, v3, v5]) rfl rfl rfl rfl rfl (fill_nil))) rfl rc1 rfl (RC.kn OTMatch.knows rc1)) rfl (fun v7 Φ_4 D2 q4 => ?_))
   obtain ⟨fr4, h4⟩ := q4
   replace h4 : OSl OTMatch 44 3 Φ_4 ((ob v3 ++ []) ++ ((ob v5 ++ []))) v7 ([(⟨0, x4, x5⟩ : TMatch)] : List TMatch) := by simpa [List.append_assoc] using h4
   replace ph0 := ph0.frame OTMatch.lasts fr4 (Dj.empty _) (Dj.empty _)
   replace pp0 := fr4 _ _ (by simp) pp0
   refine WM.conv (S' := St w0 Φ_4 [(b_2, .cells #[pv2_0, .int .i64 p2.Next] 29 (0, 0)), (b_1, .cells #[.string p1.Name, .int .i64 p1.Sal, pv1_0, pv1_1, pv1_2] 40 (0, 0))] [((ob v3 ++ []) ++ ((ob v5 ++ []))), ob v7, ob v1, [pb0], ob pv0, pD0]) (fun w1 hw => hw.merge (js := [2, 1]) rfl (SP.eq (by simp [List.append_assoc, ob_nil]))) ?_
   obtain ⟨x6, hx6, h⟩ := bs h
   have kf3 := kf2.se fr4
   refine WM.one 10 (by kernel_rfl) (me rfl (fun _ v Φx D w1 hq hw => Kn.of (kf3.st hq.1.2 (hq.1.1.r (i := 3) rfl)) (ai2 0 1 rfl rfl) hw) (e_appO OTMatch.lasts OTMatch.one Sl_32 Ei_44 rfl rfl rfl rfl rfl (js := [4]) (Rr := [((ob v3 ++ []) ++ ((ob v5 ++ []))), ob v7, ob v1, [pb0], pD0]) rfl ph0 h4 (fun ap => (ap.r (i := 4) rfl)) (fun ap => (ap.r (i := 0) rfl)) hx6) rfl (fun v8 Φ_5 D3 q5 => ?_))
   obtain ⟨⟨ap4, fr5⟩, h5⟩ := q5
   replace pp0 := fr5 _ _ ((ap4.r (i := 3) rfl) _ (by simp)) pp0
   refine WM.conv (S' := St w0 Φ_5 [(b_2, .cells #[pv2_0, .int .i64 p2.Next] 29 (0, 0)), (b_1, .cells #[.string p1.Name, .int .i64 p1.Sal, pv1_0, pv1_1, pv1_2] 40 (0, 0))] [(pD0 ++ ((ob v3 ++ []) ++ ((ob v5 ++ [])))), ob v8, ob v7, ob v1, [pb0]]) (fun w1 hw => hw.merge (js := [5, 1]) rfl (SP.eq (by simp))) ?_
   have kf4 := kf3.st fr5 (ap4.r (i := 3) rfl)
   refine mq 11 rfl (by kernel_rfl) (kn kf4 (ai2 0 1 rfl rfl)) (q_nilCheck rfl) rfl ?_
   refine WM.thw (js := [4]) (R := [(pD0 ++ ((ob v3 ++ []) ++ ((ob v5 ++ [])))), ob v8, ob v7, ob v1]) rfl pp0 (fun Φ_6 ap5 fr6 => ?_)
   replace h5 := h5.frame OTMatch.lasts fr6 (ap5.r (i := 1) rfl) (ap5.r (i := 0) rfl)
   refine WM.one 12 (by kernel_rfl) (ms rfl (fun hc => by cases hc) (s_store (i := 0) (vs := [v8]) (C' := [v8]) (O' := [(pb0, .cells #[v8] 32 (0, 0)), (b_2, .cells #[pv2_0, .int .i64 p2.Next] 29 (0, 0)), (b_1, .cells #[.string p1.Name, .int .i64 p1.Sal, pv1_0, pv1_1, pv1_2] 40 (0, 0))]) Sz_32 rfl rfl rfl (one_cells h5.one) rfl rfl ⟨h5.one, trivial⟩ rfl rfl) rfl ?_)
   refine WM.nil (by kernel_rfl) ?_
   refine WT.frz (js := [0]) (R := [(b_2, .cells #[pv2_0, .int .i64 p2.Next] 29 (0, 0)), (b_1, .cells #[.string p1.Name, .int .i64 p1.Sal, pv1_0, pv1_1, pv1_2] 40 (0, 0))]) rfl (fun Φ_7 fr7 k1 => ?_)
   replace h5 := h5.frame OTMatch.lasts fr7 (Dj.empty _) (Dj.empty _)
   refine WT.ret Tryz.func98 resOk.none (fun w1 hw => ?_)
   subst hb0
   cases h
   refine postG_of_St (js := [0, 1, 0]) hw rfl ⟨v8, (pD0 ++ ((ob v3 ++ []) ++ ((ob v5 ++ [])))), rfl, rfl, h5, k1⟩
  refine WT.skip ?_
  refine WT.ret Tryz.func98 resOk.none (fun w1 hw => ?_)
  subst hb0
  cases h
  refine postG_of_St (js := [1, 1, 1]) hw rfl ⟨pv0, pD0, rfl, rfl, ph0, pp0⟩
 refine WT.skip <| sr <| lf Fld_29_0 rfl rfl rfl <| lo T1_27 0 rfl <| lq (q_lenR Sl_27 rfl rfl ph2_0) rfl <| la rfl <| en <| blk ?_
 refine loop_in (σ := Hp × (List TMatch) × Value × List Nat × Int) (fun s => [(0, .pointer (some ⟨pb0, 0, none⟩)), (3, pv3), (4, pv4), (6, .pointer (some ⟨b_1, 0, none⟩)), (7, .pointer (some ⟨b_2, 0, none⟩)), (10, v1), (46, pv2_0), (47, .int .i64 (p2.Items.length : Int)), (48, .int .i64 s.2.2.2.2)]) (fun s => St w0 s.1 [(b_2, .cells #[pv2_0, .int .i64 p2.Next] 29 (0, 0)), (b_1, .cells #[.string p1.Name, .int .i64 p1.Sal, pv1_0, pv1_1, pv1_2] 40 (0, 0))] [ob v1, [pb0], ob s.2.2.1, s.2.2.2.1]) (fun m s => m_i_addRows_l1 N p1 p2 p3 p4 (m_i_addRows N) x1 m s.2.1 s.2.2.2.2 = some r ∧ (OSl OTMatch 44 3 s.1 s.2.2.2.1 s.2.2.1 s.2.1) ∧ (OSl RTPat 171 3 s.1 D1 v1 x1) ∧ (s.1 pb0 = some (.cells #[s.2.2.1] 32 (0, 0))) ∧ (RSl (RI .i64) 1 s.1 pG3 pv3 p3) ∧ (RSl RTBind 4 s.1 pG4 pv4 p4) ∧ (RSl RTPat 3 s.1 pG1_0 pv1_0 p1.Pats) ∧ (RSl RTCond 11 s.1 pG1_1 pv1_1 p1.Conds) ∧ (RSl RTAct 5 s.1 pG1_2 pv1_2 p1.Acts) ∧ (RSl RTItem 3 s.1 pG2_0 pv2_0 p2.Items)) (Φ_1, p0, pv0, pD0, 0) N ⟨h, ph0, h1, pp0, ph3, ph4, ph1_0, ph1_1, ph1_2, ph2_0⟩ ⟨rfl, rfl, rfl, rfl, rfl, rfl, rfl, rfl, rfl, trivial⟩ (fun w1 hw => (hw.sel (js := [0, 0, 0, 0]) rfl).selO (js := [0, 0]) rfl) (fun s hm => none_ne hm.1) (fun n1 ih1 s hm => ?_)
 obtain ⟨Φ_8, s1, u1, D4, s2⟩ := s
 obtain ⟨h, k2, h1, k3, ph3, ph4, ph1_0, ph1_1, ph1_2, ph2_0⟩ := hm
 dsimp only at h k2 h1 k3 ph3 ph4 ph1_0 ph1_1 ph1_2 ph2_0 ⊢
 unfold m_i_addRows_l1 at h
 refine sr <| la rfl <| en <| sq ?_
 refine cdh rfl h (fun c4 h => ?_) (fun c4 h => ?_)
 ·refine WT.skip <| sq <| blk <| sr ?_
  obtain ⟨x7, hx7, h⟩ := bs h
  obtain ⟨cs1, F4, -, g1, hb1, hs1, r1⟩ := ph2_0.el (idx_some hx7).2.2
  obtain ⟨v9, G1, rfl, hq1, h6⟩ := r1
  obtain rfl := hq1.symm
  refine lq (q_indexAddr Sl_27 rfl rfl ph2_0 hx7) rfl <| lg3 0 Tn_125 g1 rfl rfl ?_
  refine ln (nz Zr_125) rfl (fun b_3 => ?_)
  refine soN 0 Sz_125 rfl ⟨rfl, rfl, h6.one, trivial⟩ rfl ?_
  refine en <| sq <| WT.mix (Kn Φ_8 (ob v1) [(b_3, .cells #[.int .i64 x7.Id, .string x7.F.Kind, v9] 125 (0, 0)), (b_2, .cells #[pv2_0, .int .i64 p2.Next] 29 (0, 0)), (b_1, .cells #[.string p1.Name, .int .i64 p1.Sal, pv1_0, pv1_1, pv1_2] 40 (0, 0))]) (fun _ => true) mixed (fun _ h => h.drew) <| ma 0 rfl (by kernel_rfl) (kn Kf.id (ai3 0 1 2 rfl rfl rfl)) rfl <| ma 1 rfl (by kernel_rfl) (kn Kf.id (ai3 0 1 2 rfl rfl rfl)) rfl ?_
  refine mq 2 rfl (by kernel_rfl) (kn Kf.id (ai3 0 1 2 rfl rfl rfl)) (q_lenR Sl_41 rfl rfl ph3) rfl ?_
  obtain ⟨x8, hx8, h⟩ := bs h
  obtain ⟨cs2, F5, -, g2, hb2, hs2, r2⟩ := h1.elS (idx_some hx8).2.2
  obtain ⟨v10, G2, rfl, hq2, h7⟩ := r2
  obtain rfl := hq2.symm
  refine mq 3 rfl (by kernel_rfl) (kn Kf.id (ai3 0 1 2 rfl rfl rfl)) (q_indexAddr Sl_36 rfl rfl h1.rsl hx8) rfl <| mq 4 rfl (by kernel_rfl) (kn Kf.id (ai3 0 1 2 rfl rfl rfl)) (q_loadN Tn_171 rfl (fun w1 hw => hw.rg hb2 (g2.of_eq 0 3 rfl rfl : rg _ _ _ [.string x8.Kind, v10, .bool x8.Not])) rfl) rfl <| mq 5 rfl (by kernel_rfl) (kn Kf.id (ai3 0 1 2 rfl rfl rfl)) (q_fieldAddr Fld_125_1 rfl) rfl <| mq 6 rfl (by kernel_rfl) (kn Kf.id (ai3 0 1 2 rfl rfl rfl)) (q_loadN Tn_123 rfl (fun w1 hw => hw.rgO (i := 0) rfl 1 2 [.string x7.F.Kind, v9] rfl) rfl) rfl ?_
  refine ma 7 rfl (by kernel_rfl) (kn Kf.id (ai3 0 1 2 rfl rfl rfl)) rfl ?_
  obtain ⟨x9, hx9, h⟩ := bs h
  refine WM.one 8 (by kernel_rfl) (mc rfl (fun _ v Φx D w1 hq hw => Kn.of (Kf.id.st hq.2.1 (hq.1.r (i := 0) rfl)) (ai3 0 1 2 rfl rfl rfl) hw) (k_call (js := []) (R := [ob v1, [pb0], ob u1, D4]) Fun_154 rfl rfl (fun w1 hw ap hl => m_i_MatchPat_ok hw.fro N x8 x7.F p4 h7 h6 ph4  hx9)) rfl (fun v11 Φ_9 F6 q6 => ?_))
  obtain ⟨ap6, fr8, v12, rfl, rfl, h8⟩ := q6
  replace ph3 := ph3.frame RI.lasts fr8 (ap6.o pa3)
  replace ph4 := ph4.frame RTBind.lasts fr8 (ap6.o pa4)
  replace ph1_0 := ph1_0.frame RTPat.lasts fr8 (ap6.o pa1_0)
  replace ph1_1 := ph1_1.frame RTCond.lasts fr8 (ap6.o pa1_1)
  replace ph1_2 := ph1_2.frame RTAct.lasts fr8 (ap6.o pa1_2)
  replace ph2_0 := ph2_0.frame RTItem.lasts fr8 (ap6.o pa2_0)
  replace h6 := h6.frame RTVal.lasts fr8 (Dj.sub (ap6.o pa2_0) (fun k h => hs1 k h))
  replace k2 := k2.frame OTMatch.lasts fr8 (ap6.r (i := 2) rfl) (ap6.r (i := 3) rfl)
  replace h1 := h1.frame RTPat.lasts fr8 (ap6.r (i := 0) rfl) (Dj.sub (ap6.o pa1_0) i1)
  replace k3 := fr8 _ _ ((ap6.r (i := 1) rfl) _ (by simp)) k3
  have kf5 := (Kf.id (F := (ob v1)) : Kf Φ_8 _ _).st fr8 (ap6.r (i := 0) rfl)
  refine ma 9 rfl (by kernel_rfl) (kn kf5 (ai3 0 1 2 rfl rfl rfl)) rfl <| mq 10 rfl (by kernel_rfl) (kn kf5 (ai3 0 1 2 rfl rfl rfl)) (q_extract rfl rfl) rfl <| mq 11 rfl (by kernel_rfl) (kn kf5 (ai3 0 1 2 rfl rfl rfl)) (q_extract rfl rfl) rfl <| ma 12 rfl (by kernel_rfl) (kn kf5 (ai3 0 1 2 rfl rfl rfl)) rfl <| ma 13 rfl (by kernel_rfl) (kn kf5 (ai3 0 1 2 rfl rfl rfl)) rfl <| WM.nil (by kernel_rfl) <| sr <| la rfl <| en ?_
  refine cdh rfl h (fun c5 h => ?_) (fun c5 h => ?_)
  ·refine cut (σ := Hp × (List TMatch) × Value × List Nat) (fun s => [(0, .pointer (some ⟨pb0, 0, none⟩)), (3, pv3), (4, pv4), (6, .pointer (some ⟨b_1, 0, none⟩)), (7, .pointer (some ⟨b_2, 0, none⟩)), (10, v1), (46, pv2_0), (47, .int .i64 (p2.Items.length : Int)), (48, .int .i64 s2)]) (fun s => St w0 s.1 [(b_2, .cells #[pv2_0, .int .i64 p2.Next] 29 (0, 0)), (b_1, .cells #[.string p1.Name, .int .i64 p1.Sal, pv1_0, pv1_1, pv1_2] 40 (0, 0))] [[pb0], ob s.2.2.1, s.2.2.2, ob v1]) (fun s => m_i_addRows_j2 N s2 (m_i_addRows_l1 N p1 p2 p3 p4 (m_i_addRows N) x1 n1) s.2.1 = some r ∧ (OSl RTPat 171 3 s.1 D1 v1 x1) ∧ (OSl OTMatch 44 3 s.1 s.2.2.2 s.2.2.1 s.2.1) ∧ (s.1 pb0 = some (.cells #[s.2.2.1] 32 (0, 0))) ∧ (RSl (RI .i64) 1 s.1 pG3 pv3 p3) ∧ (RSl RTBind 4 s.1 pG4 pv4 p4) ∧ (RSl RTPat 3 s.1 pG1_0 pv1_0 p1.Pats) ∧ (RSl RTCond 11 s.1 pG1_1 pv1_1 p1.Conds) ∧ (RSl RTAct 5 s.1 pG1_2 pv1_2 p1.Acts) ∧ (RSl RTItem 3 s.1 pG2_0 pv2_0 p2.Items)) (fun s hm => ?_) (fun K => ?_)
   ·clear h
    obtain ⟨Φ_14, s3, u2, D8⟩ := s
    obtain ⟨h, h1, k4, k5, ph3, ph4, ph1_0, ph1_1, ph1_2, ph2_0⟩ := hm
    dsimp only at h h1 k4 k5 ph3 ph4 ph1_0 ph1_1 ph1_2 ph2_0 ⊢
    unfold m_i_addRows_j2 at h
    refine ib <| rgn <| la rfl <| la rfl <| en ?_
    exact lback (ih1 (Φ_14, s3, u2, D8, IntKind.i64.wrap (s2 + 1)) ⟨h, k4, h1, k5, ph3, ph4, ph1_0, ph1_1, ph1_2, ph2_0⟩) ⟨rfl, rfl, rfl, rfl, rfl, rfl, rfl, rfl, rfl, trivial⟩ (fun w1 hw => (hw.sel (js := [3, 0, 0, 0]) rfl).selO (js := [0, 0]) rfl)
   refine WT.mix (Kn Φ_9 [] [(b_3, .cells #[.int .i64 x7.Id, .string x7.F.Kind, v9] 125 (0, 0)), (b_2, .cells #[pv2_0, .int .i64 p2.Next] 29 (0, 0)), (b_1, .cells #[.string p1.Name, .int .i64 p1.Sal, pv1_0, pv1_1, pv1_2] 40 (0, 0))]) (fun i => match i with | 10 => false | _ => true) mixed (fun _ h => h.drew) <| ma 0 rfl (by kernel_rfl) (kn Kf.nil (ai3 0 1 2 rfl rfl rfl)) rfl <| mq 1 rfl (by kernel_rfl) (kn Kf.nil (ai3 0 1 2 rfl rfl rfl)) (q_loadN Tn_40 rfl (fun w1 hw => hw.rgO (i := 2) rfl 0 5 [.string p1.Name, .int .i64 p1.Sal, pv1_0, pv1_1, pv1_2] rfl) rfl) rfl ?_
   refine mq 2 rfl (by kernel_rfl) (kn Kf.nil (ai3 0 1 2 rfl rfl rfl)) (q_loadN Tn_29 rfl (fun w1 hw => hw.rgO (i := 1) rfl 0 2 [pv2_0, .int .i64 p2.Next] rfl) rfl) rfl <| ma 9 rfl (by kernel_rfl) (kn Kf.nil (ai3 0 1 2 rfl rfl rfl)) rfl <| mqT 3 [4, 8, 10] rfl (by kernel_rfl) (kn Kf.nil (ai3 0 1 2 rfl rfl rfl)) (q_move rfl) rfl <| mqT 5 [6, 7, 8, 10] rfl (by kernel_rfl) (kn Kf.nil (ai3 0 1 2 rfl rfl rfl)) (q_fieldAddr Fld_125_0 rfl) rfl ?_
   refine mqT 6 [7, 8, 10] rfl (by kernel_rfl) (kn Kf.nil (ai3 0 1 2 rfl rfl rfl)) (q_load1 T1_3 rfl (fun w1 hw => hw.rgO (i := 0) rfl 0 1 [.int .i64 x7.Id] rfl)) rfl ?_
   refine WM.two 4 7 (by kernel_rfl) ?_ ?_
   ·obtain ⟨x13, hx13, h⟩ := bs h
    refine mc rfl (fun _ v Φx D w1 hq hw => Kn.of Kf.nil (ai3 0 1 2 rfl rfl rfl) hw) (k_call (js := []) (R := [ob v12, ob v1, [pb0], ob u1, D4]) Fun_152 rfl rfl (fun w1 hw ap hl => m_sl_Clone_Sint_int_ok hw.fro N p3 ph3  hx13)) rfl (fun v19 Φ_15 F9 q11 => ?_)
    obtain ⟨ap10, fr13, v20, rfl, rfl, h14⟩ := q11
    replace ph3 := ph3.frame RI.lasts fr13 (ap10.o pa3)
    replace ph4 := ph4.frame RTBind.lasts fr13 (ap10.o pa4)
    replace ph1_0 := ph1_0.frame RTPat.lasts fr13 (ap10.o pa1_0)
    replace ph1_1 := ph1_1.frame RTCond.lasts fr13 (ap10.o pa1_1)
    replace ph1_2 := ph1_2.frame RTAct.lasts fr13 (ap10.o pa1_2)
    replace ph2_0 := ph2_0.frame RTItem.lasts fr13 (ap10.o pa2_0)
    replace k2 := k2.frame OTMatch.lasts fr13 (ap10.r (i := 3) rfl) (ap10.r (i := 4) rfl)
    replace h1 := h1.frame RTPat.lasts fr13 (ap10.r (i := 1) rfl) (Dj.sub (ap10.o pa1_0) i1)
    replace h8 := h8.frame RTBind.lasts fr13 (ap10.r (i := 0) rfl) (Dj.nil _)
    replace k3 := fr13 _ _ ((ap10.r (i := 2) rfl) _ (by simp)) k3
    have rc3 : RC (RI .i64) 1 Φ_15 ([[]] : List (List Nat)) [.int .i64 x7.Id] ([x7.Id] : List Int) := RC.cons (c := [.int .i64 x7.Id]) (cells := []) ⟨rfl, rfl⟩ rfl (RC.nil _ _ _)
    refine WM.one 7 (by kernel_rfl) (me rfl (fun _ v Φx D w1 hq hw => Kn.of Kf.nil (ai3 0 1 2 rfl rfl rfl) hw) (e_lit (vs := [(0, .int .i64 x7.Id)]) (C := #[.int .i64 x7.Id]) RI.lasts Sl_41 Zr_3 rfl rfl rfl rfl (fill_made MC_3_1 (fill_cons (C' := [.int .i64 x7.Id]) rfl rfl rfl rfl rfl (fill_nil))) rfl rc3 rfl (by simpa using Kw.nil)) rfl (fun v21 Φ_16 D9 q12 => ?_))
    obtain ⟨fr14, h15⟩ := q12
    replace h15 : OSl (RI .i64) 3 1 Φ_16 [] v21 ([x7.Id] : List Int) := by simpa using h15
    replace ph3 := ph3.frame RI.lasts fr14 (Dj.empty _)
    replace ph4 := ph4.frame RTBind.lasts fr14 (Dj.empty _)
    replace ph1_0 := ph1_0.frame RTPat.lasts fr14 (Dj.empty _)
    replace ph1_1 := ph1_1.frame RTCond.lasts fr14 (Dj.empty _)
    replace ph1_2 := ph1_2.frame RTAct.lasts fr14 (Dj.empty _)
    replace ph2_0 := ph2_0.frame RTItem.lasts fr14 (Dj.empty _)
    replace k2 := k2.frame OTMatch.lasts fr14 (Dj.empty _) (Dj.empty _)
    replace h1 := h1.frame RTPat.lasts fr14 (Dj.empty _) (Dj.empty _)
    replace h8 := h8.frame RTBind.lasts fr14 (Dj.empty _) (Dj.empty _)
    replace h14 := h14.frame RI.lasts fr14 (Dj.empty _) (Dj.empty _)
    replace k3 := fr14 _ _ (by simp) k3
    obtain ⟨x14, hx14, h⟩ := bs h
    refine WM.one 8 (by kernel_rfl) (me rfl (fun _ v Φx D w1 hq hw => Kn.of Kf.nil (ai3 0 1 2 rfl rfl rfl) hw) (e_appF RI.lasts RI.one RI.flat Sl_41 Ei_3 rfl rfl rfl rfl rfl (js := [1]) (Rr := [ob v21, ob v12, ob v1, [pb0], ob u1, D4]) rfl h14 h15.rsl hx14) rfl (fun v22 Φ_17 D10 q13 => ?_))
    obtain ⟨⟨ap11, fr15⟩, h16⟩ := q13
    replace ph3 := ph3.frame RI.lasts fr15 (ap11.o pa3)
    replace ph4 := ph4.frame RTBind.lasts fr15 (ap11.o pa4)
    replace ph1_0 := ph1_0.frame RTPat.lasts fr15 (ap11.o pa1_0)
    replace ph1_1 := ph1_1.frame RTCond.lasts fr15 (ap11.o pa1_1)
    replace ph1_2 := ph1_2.frame RTAct.lasts fr15 (ap11.o pa1_2)
    replace ph2_0 := ph2_0.frame RTItem.lasts fr15 (ap11.o pa2_0)
    replace k2 := k2.frame OTMatch.lasts fr15 (ap11.r (i := 4) rfl) (ap11.r (i := 5) rfl)
    replace h1 := h1.frame RTPat.lasts fr15 (ap11.r (i := 2) rfl) (Dj.sub (ap11.o pa1_0) i1)
    replace h8 := h8.frame RTBind.lasts fr15 (ap11.r (i := 1) rfl) (Dj.nil _)
    replace k3 := fr15 _ _ ((ap11.r (i := 3) rfl) _ (by simp)) k3
    obtain ⟨x15, hx15, h⟩ := bs h
    refine WM.one 10 (by kernel_rfl) (mc rfl (fun hc => by cases hc) (k_call (js := [4, 4, 4]) (R := [ob v22, ob v21, ob v12, ob v1]) Fun_98 rfl rfl (fun w1 hw ap hl => ih hw.fro s1 p1 p2 x14 x9.1 k2 k3 ph1_0 ph1_1 ph1_2 ph2_0 h16.rsl h8.rsl (ap.o pa1_0) (ap.o pa1_1) (ap.o pa1_2) (ap.o pa2_0) (Dj.app (ap.r (i := 0) rfl) (Dj.nil _)) (Dj.app (ap.r (i := 2) rfl) (Dj.nil _)) ap.nd hl hx15)) rfl (fun v23 Φ_18 F10 q14 => ?_))
    obtain ⟨ap12, fr16, v24, D11, rfl, rfl, h17, h18⟩ := q14
    replace ph3 := ph3.frame RI.lasts fr16 (ap12.o pa3)
    replace ph4 := ph4.frame RTBind.lasts fr16 (ap12.o pa4)
    replace ph1_0 := ph1_0.frame RTPat.lasts fr16 (ap12.o pa1_0)
    replace ph1_1 := ph1_1.frame RTCond.lasts fr16 (ap12.o pa1_1)
    replace ph1_2 := ph1_2.frame RTAct.lasts fr16 (ap12.o pa1_2)
    replace ph2_0 := ph2_0.frame RTItem.lasts fr16 (ap12.o pa2_0)
    replace h1 := h1.frame RTPat.lasts fr16 (ap12.r (i := 3) rfl) (Dj.sub (ap12.o pa1_0) i1)
    refine WM.nil (by kernel_rfl) ?_
    exact wto (K (Φ_18, x15, v24, D11) ⟨h, h1, h17, h18, ph3, ph4, ph1_0, ph1_1, ph1_2, ph2_0⟩) ⟨rfl, rfl, rfl, rfl, rfl, rfl, rfl, rfl, rfl, trivial⟩ (fun w1 hw => (hw.sel (js := [0, 0, 0, 3]) rfl).selO (js := [1, 1]) rfl)
   have rc4 : RC (RI .i64) 1 Φ_9 ([[]] : List (List Nat)) [.int .i64 x7.Id] ([x7.Id] : List Int) := RC.cons (c := [.int .i64 x7.Id]) (cells := []) ⟨rfl, rfl⟩ rfl (RC.nil _ _ _)
   refine me rfl (fun _ v Φx D w1 hq hw => Kn.of Kf.nil (ai3 0 1 2 rfl rfl rfl) hw) (e_lit (vs := [(0, .int .i64 x7.Id)]) (C := #[.int .i64 x7.Id]) RI.lasts Sl_41 Zr_3 rfl rfl rfl rfl (fill_made MC_3_1 (fill_cons (C' := [.int .i64 x7.Id]) rfl rfl rfl rfl rfl (fill_nil))) rfl rc4 rfl (by simpa using Kw.nil)) rfl (fun v25 Φ_19 D12 q15 => ?_)
   obtain ⟨fr17, h19⟩ := q15
   replace h19 : OSl (RI .i64) 3 1 Φ_19 [] v25 ([x7.Id] : List Int) := by simpa using h19
   replace ph3 := ph3.frame RI.lasts fr17 (Dj.empty _)
   replace ph4 := ph4.frame RTBind.lasts fr17 (Dj.empty _)
   replace ph1_0 := ph1_0.frame RTPat.lasts fr17 (Dj.empty _)
   replace ph1_1 := ph1_1.frame RTCond.lasts fr17 (Dj.empty _)
   replace ph1_2 := ph1_2.frame RTAct.lasts fr17 (Dj.empty _)
   replace ph2_0 := ph2_0.frame RTItem.lasts fr17 (Dj.empty _)
   replace k2 := k2.frame OTMatch.lasts fr17 (Dj.empty _) (Dj.empty _)
   replace h1 := h1.frame RTPat.lasts fr17 (Dj.empty _) (Dj.empty _)
   replace h8 := h8.frame RTBind.lasts fr17 (Dj.empty _) (Dj.empty _)
   replace k3 := fr17 _ _ (by simp) k3
   obtain ⟨x16, hx16, h⟩ := bs h
   refine WM.one 4 (by kernel_rfl) (mc rfl (fun _ v Φx D w1 hq hw => Kn.of Kf.nil (ai3 0 1 2 rfl rfl rfl) hw) (k_call (js := []) (R := [ob v25, ob v12, ob v1, [pb0], ob u1, D4]) Fun_152 rfl rfl (fun w1 hw ap hl => m_sl_Clone_Sint_int_ok hw.fro N p3 ph3  hx16)) rfl (fun v26 Φ_20 F11 q16 => ?_))
   obtain ⟨ap13, fr18, v27, rfl, rfl, h20⟩ := q16
   replace ph3 := ph3.frame RI.lasts fr18 (ap13.o pa3)
   replace ph4 := ph4.frame RTBind.lasts fr18 (ap13.o pa4)
   replace ph1_0 := ph1_0.frame RTPat.lasts fr18 (ap13.o pa1_0)
   replace ph1_1 := ph1_1.frame RTCond.lasts fr18 (ap13.o pa1_1)
   replace ph1_2 := ph1_2.frame RTAct.lasts fr18 (ap13.o pa1_2)
   replace ph2_0 := ph2_0.frame RTItem.lasts fr18 (ap13.o pa2_0)
   replace k2 := k2.frame OTMatch.lasts fr18 (ap13.r (i := 4) rfl) (ap13.r (i := 5) rfl)
   replace h1 := h1.frame RTPat.lasts fr18 (ap13.r (i := 2) rfl) (Dj.sub (ap13.o pa1_0) i1)
   replace h19 := h19.frame RI.lasts fr18 (ap13.r (i := 0) rfl) (Dj.nil _)
   replace h8 := h8.frame RTBind.lasts fr18 (ap13.r (i := 1) rfl) (Dj.nil _)
   replace k3 := fr18 _ _ ((ap13.r (i := 3) rfl) _ (by simp)) k3
   obtain ⟨x17, hx17, h⟩ := bs h
   refine WM.one 8 (by kernel_rfl) (me rfl (fun _ v Φx D w1 hq hw => Kn.of Kf.nil (ai3 0 1 2 rfl rfl rfl) hw) (e_appF RI.lasts RI.one RI.flat Sl_41 Ei_3 rfl rfl rfl rfl rfl (js := [0]) (Rr := [ob v25, ob v12, ob v1, [pb0], ob u1, D4]) rfl h20 h19.rsl hx17) rfl (fun v28 Φ_21 D13 q17 => ?_))
   obtain ⟨⟨ap14, fr19⟩, h21⟩ := q17
   replace ph3 := ph3.frame RI.lasts fr19 (ap14.o pa3)
   replace ph4 := ph4.frame RTBind.lasts fr19 (ap14.o pa4)
   replace ph1_0 := ph1_0.frame RTPat.lasts fr19 (ap14.o pa1_0)
   replace ph1_1 := ph1_1.frame RTCond.lasts fr19 (ap14.o pa1_1)
   replace ph1_2 := ph1_2.frame RTAct.lasts fr19 (ap14.o pa1_2)
   replace ph2_0 := ph2_0.frame RTItem.lasts fr19 (ap14.o pa2_0)
   replace k2 := k2.frame OTMatch.lasts fr19 (ap14.r (i := 4) rfl) (ap14.r (i := 5) rfl)
   replace h1 := h1.frame RTPat.lasts fr19 (ap14.r (i := 2) rfl) (Dj.sub (ap14.o pa1_0) i1)
   replace h8 := h8.frame RTBind.lasts fr19 (ap14.r (i := 1) rfl) (Dj.nil _)
   replace k3 := fr19 _ _ ((ap14.r (i := 3) rfl) _ (by simp)) k3
   obtain ⟨x18, hx18, h⟩ := bs h
   refine WM.one 10 (by kernel_rfl) (mc rfl (fun hc => by cases hc) (k_call (js := [4, 4, 4]) (R := [ob v28, ob v25, ob v12, ob v1]) Fun_98 rfl rfl (fun w1 hw ap hl => ih hw.fro s1 p1 p2 x17 x9.1 k2 k3 ph1_0 ph1_1 ph1_2 ph2_0 h21.rsl h8.rsl (ap.o pa1_0) (ap.o pa1_1) (ap.o pa1_2) (ap.o pa2_0) (Dj.app (ap.r (i := 0) rfl) (Dj.nil _)) (Dj.app (ap.r (i := 2) rfl) (Dj.nil _)) ap.nd hl hx18)) rfl (fun v29 Φ_22 F12 q18 => ?_))
   obtain ⟨ap15, fr20, v30, D14, rfl, rfl, h22, h23⟩ := q18
   replace ph3 := ph3.frame RI.lasts fr20 (ap15.o pa3)
   replace ph4 := ph4.frame RTBind.lasts fr20 (ap15.o pa4)
   replace ph1_0 := ph1_0.frame RTPat.lasts fr20 (ap15.o pa1_0)
   replace ph1_1 := ph1_1.frame RTCond.lasts fr20 (ap15.o pa1_1)
   replace ph1_2 := ph1_2.frame RTAct.lasts fr20 (ap15.o pa1_2)
   replace ph2_0 := ph2_0.frame RTItem.lasts fr20 (ap15.o pa2_0)
   replace h1 := h1.frame RTPat.lasts fr20 (ap15.r (i := 3) rfl) (Dj.sub (ap15.o pa1_0) i1)
   refine WM.nil (by kernel_rfl) ?_
   exact wto (K (Φ_22, x18, v30, D14) ⟨h, h1, h22, h23, ph3, ph4, ph1_0, ph1_1, ph1_2, ph2_0⟩) ⟨rfl, rfl, rfl, rfl, rfl, rfl, rfl, rfl, rfl, trivial⟩ (fun w1 hw => (hw.sel (js := [0, 0, 0, 3]) rfl).selO (js := [1, 1]) rfl)
  refine WT.skip <| ib <| rgn <| la rfl <| la rfl <| en ?_
  exact lback (ih1 (Φ_9, s1, u1, D4, IntKind.i64.wrap (s2 + 1)) ⟨h, k2, h1, k3, ph3, ph4, ph1_0, ph1_1, ph1_2, ph2_0⟩) ⟨rfl, rfl, rfl, rfl, rfl, rfl, rfl, rfl, rfl, trivial⟩ (fun w1 hw => (hw.sel (js := [1, 1, 1, 1]) rfl).selO (js := [1, 1]) rfl)
 refine xt rfl ?_
 refine WT.fin Tryz.func98 resOk.none (fun w1 hw => ?_)
 subst hb0
 cases h
 refine postG_of_St (js := [1, 1, 1]) hw rfl ⟨u1, D4, rfl, rfl, k2, k3⟩
theorem m_i_matchesIn_ok {Φ : Hp} {w : World} (hΦ : In Φ w) (N : Nat) (p0 : TRule) (p1 : TStore) {pv0_0 pv0_1 pv0_2 pv1_0 : Value} {pG0_0 pG0_1 pG0_2 pG1_0 : List Nat} (ph0_0 : RSl RTPat 3 Φ pG0_0 pv0_0 p0.Pats) (ph0_1 : RSl RTCond 11 Φ pG0_1 pv0_1 p0.Conds) (ph0_2 : RSl RTAct 5 Φ pG0_2 pv0_2 p0.Acts) (ph1_0 : RSl RTItem 3 Φ pG1_0 pv1_0 p1.Items) {r : (List TMatch)} (h : m_i_matchesIn N p0 p1 = some r) :
  Calls Tryz.prog 43 [.agg [.string p0.Name, .int .i64 p0.Sal, pv0_0, pv0_1, pv0_2].toArray, .agg [pv1_0, .int .i64 p1.Next].toArray].toArray w (PostG Φ w [] (fun Φ' Fs v => ∃ (sr_0_0 : Value) (Dr_0_0 : List Nat), v = sr_0_0 ∧ Fs = [ob sr_0_0, Dr_0_0] ∧ OSl OTMatch 44 3 Φ' Dr_0_0 sr_0_0 r)) := by
 refine enter Tryz.func43 rfl Tryz.ntmps43 rfl (St.start0 hΦ) ?_
 have pa0_0 := Old.mk hΦ ph0_0.kn (Dj.empty _)
 have pa0_1 := Old.mk hΦ ph0_1.kn (Dj.empty _)
 have pa0_2 := Old.mk hΦ ph0_2.kn (Dj.empty _)
 have pa1_0 := Old.mk hΦ ph1_0.kn (Dj.empty _)
 revert pa0_0 pa0_1 pa0_2 pa1_0
 generalize hb0 : (⟨w, [], Φ⟩ : Base) = w0
 intro pa0_0 pa0_1 pa0_2 pa1_0
 unfold m_i_matchesIn at h
 refine sr ?_
 refine ln (nb rfl) rfl (fun b_1 => ?_)
 refine ln (nb rfl) rfl (fun b_2 => ?_)
 refine la rfl <| en <| sr ?_
 refine ln (n_alloc (C := #[.slice none 0 0]) Zr_32 rfl) rfl (fun b_3 => ?_)
 refine en <| sr <| ld5 Tn_40 2 rfl <| ld2 Tn_29 1 rfl ?_
 refine WL.frz (js := [0]) (R := [(b_2, .cells #[pv1_0, .int .i64 p1.Next] 29 (0, 0)), (b_1, .cells #[.string p0.Name, .int .i64 p0.Sal, pv0_0, pv0_1, pv0_2] 40 (0, 0))]) rfl (fun Φ_1 fr1 k1 => ?_)
 replace ph0_0 := ph0_0.frame RTPat.lasts fr1 (Dj.empty _)
 replace ph0_1 := ph0_1.frame RTCond.lasts fr1 (Dj.empty _)
 replace ph0_2 := ph0_2.frame RTAct.lasts fr1 (Dj.empty _)
 replace ph1_0 := ph1_0.frame RTItem.lasts fr1 (Dj.empty _)
 refine WL.conv (S' := St w0 Φ_1 [(b_2, .cells #[pv1_0, .int .i64 p1.Next] 29 (0, 0)), (b_1, .cells #[.string p0.Name, .int .i64 p0.Sal, pv0_0, pv0_1, pv0_2] 40 (0, 0))] (ob (.slice none 0 0) :: [[b_3]])) (fun w1 hw => hw.addNil) <| WL.conv (S' := St w0 Φ_1 [(b_2, .cells #[pv1_0, .int .i64 p1.Next] 29 (0, 0)), (b_1, .cells #[.string p0.Name, .int .i64 p0.Sal, pv0_0, pv0_1, pv0_2] 40 (0, 0))] ([] :: [ob (.slice none 0 0), [b_3]])) (fun w1 hw => hw.addNil) ?_
 have k2 := OSl.nil OTMatch 44 3 Φ_1
 obtain ⟨x1, hx1, h⟩ := bs h
 refine lc (k_call (js := [2, 1, 0]) (R := []) Fun_98 rfl rfl (fun w1 hw ap hl => m_i_addRows_ok N hw.fro ([] : List TMatch) p0 p1 [] [] k2 k1 ph0_0 ph0_1 ph0_2 ph1_0 (RSl.nil _ _ _) (RSl.nil _ _ _) (ap.o pa0_0) (ap.o pa0_1) (ap.o pa0_2) (ap.o pa1_0) (Dj.nil _) (Dj.nil _) ap.nd hl hx1)) rfl (fun v1 Φ_2 F1 q1 => ?_)
 obtain ⟨ap1, fr2, v2, D1, rfl, rfl, h1, h2⟩ := q1
 refine en <| sr <| lq (q_load1 T1_32 rfl (fun w1 hw => ((rg_cells h2).of_eq 0 1 rfl rfl : rg _ _ _ [v2]).rangeAt hw.fro)) rfl <| la rfl <| en ?_
 refine WT.ret Tryz.func43 (resOk.one rfl) (fun w1 hw => ?_)
 subst hb0
 cases h
 refine postG_of_St (js := [1, 1]) hw rfl ⟨v2, D1, rfl, rfl, h1⟩
theorem m_i_allIn_ok {Φ : Hp} {w : World} (hΦ : In Φ w) (N : Nat) (p0 : TDef) (p1 : TStore) {pv0_0 pv1_0 : Value} {pG0_0 pG1_0 : List Nat} (ph0_0 : RSl RTRule 5 Φ pG0_0 pv0_0 p0.Rules) (ph1_0 : RSl RTItem 3 Φ pG1_0 pv1_0 p1.Items) {r : (List TMatch)} (h : m_i_allIn N p0 p1 = some r) :
  Calls Tryz.prog 37 [.agg [.string p0.Name, pv0_0].toArray, .agg [pv1_0, .int .i64 p1.Next].toArray].toArray w (PostG Φ w [] (fun Φ' Fs v => ∃ (sr_0_0 : Value) (Dr_0_0 : List Nat), v = sr_0_0 ∧ Fs = [ob sr_0_0, Dr_0_0] ∧ OSl OTMatch 44 3 Φ' Dr_0_0 sr_0_0 r)) := by
 refine enter Tryz.func37 rfl Tryz.ntmps37 rfl (St.start0 hΦ) ?_
 have pa0_0 := Old.mk hΦ ph0_0.kn (Dj.empty _)
 have pa1_0 := Old.mk hΦ ph1_0.kn (Dj.empty _)
 revert pa0_0 pa1_0
 generalize hb0 : (⟨w, [], Φ⟩ : Base) = w0
 intro pa0_0 pa1_0
 unfold m_i_allIn at h
 refine sr ?_
 refine ln (nb rfl) rfl (fun b_1 => ?_)
 refine ln (nb rfl) rfl (fun b_2 => ?_)
 refine la rfl <| en <| sr <| la rfl <| en <| sq <| sr <| lf Fld_26_1 rfl rfl rfl <| lo T1_24 1 rfl <| lq (q_lenR Sl_24 rfl rfl ph0_0) rfl <| la rfl <| en <| blk <| WT.loop <| WT.conv (S' := St w0 Φ [(b_2, .cells #[pv1_0, .int .i64 p1.Next] 29 (0, 0)), (b_1, .cells #[.string p0.Name, pv0_0] 26 (0, 0))] ([] :: [])) (fun w1 hw => hw.addNil) <| WT.conv (S' := St w0 Φ [(b_2, .cells #[pv1_0, .int .i64 p1.Next] 29 (0, 0)), (b_1, .cells #[.string p0.Name, pv0_0] 26 (0, 0))] (ob (.slice none 0 0) :: [[]])) (fun w1 hw => hw.addNil) ?_
 have k1 := OSl.nil OTMatch 44 3 Φ
 refine WT.mono (l' := [(3, .pointer (some ⟨b_2, 0, none⟩)), (5, (.slice none 0 0)), (11, pv0_0), (12, .int .i64 (p0.Rules.length : Int)), (13, .int .i64 0)]) (S' := St w0 Φ [(b_2, .cells #[pv1_0, .int .i64 p1.Next] 29 (0, 0))] [ob (.slice none 0 0), []]) ⟨rfl, rfl, rfl, rfl, rfl, trivial⟩ (fun w1 hw => (hw.sel (js := [0, 0]) rfl).selO (js := [0]) rfl) ?_
 refine loop_ind (σ := Hp × List Nat × (List TMatch) × Value × List Nat × Int) (fun s => [(3, .pointer (some ⟨b_2, 0, none⟩)), (5, s.2.2.2.1), (11, pv0_0), (12, .int .i64 (p0.Rules.length : Int)), (13, .int .i64 s.2.2.2.2.2)]) (fun s => St w0 s.1 [(b_2, .cells #[pv1_0, .int .i64 p1.Next] 29 (0, 0))] [ob s.2.2.2.1, s.2.1]) (fun m s => m_i_allIn_l1 N p0 p1 m s.2.2.1 s.2.2.2.2.2 = some r ∧ (OSl OTMatch 44 3 s.1 s.2.2.2.2.1 s.2.2.2.1 s.2.2.1) ∧ (SP s.2.2.2.2.1 s.2.1) ∧ (RSl RTItem 3 s.1 pG1_0 pv1_0 p1.Items) ∧ (RSl RTRule 5 s.1 pG0_0 pv0_0 p0.Rules)) (fun s hm => none_ne (show (none : Option ((List TMatch))) = some r from hm.1)) (fun n1 ih1 s hm => ?_) N (Φ, [], ([] : List TMatch), (.slice none 0 0), [], 0) ⟨h, k1, SP.refl _, ph1_0, ph0_0⟩
 obtain ⟨Φ_1, X1, s1, u1, D1, s2⟩ := s
 obtain ⟨h, k2, i1, ph1_0, ph0_0⟩ := hm
 dsimp only at h k2 i1 ph1_0 ph0_0 ⊢
 unfold m_i_allIn_l1 at h
 refine sr <| la rfl <| en <| sq ?_
 refine cdh rfl h (fun c1 h => ?_) (fun c1 h => ?_)
 ·refine WT.skip <| sq <| blk <| sr <| la rfl ?_
  obtain ⟨x1, hx1, h⟩ := bs h
  obtain ⟨cs1, F1, -, g1, hb1, hs1, r1⟩ := ph0_0.el (idx_some hx1).2.2
  obtain ⟨v1, G1, v2, G2, v3, G3, rfl, rfl, h1, h2, h3⟩ := r1
  refine lq (q_indexAddr Sl_24 rfl rfl ph0_0 hx1) rfl <| lg5 0 Tn_40 g1 rfl rfl ?_
  refine ln (nz Zr_40) rfl (fun b_3 => ?_)
  refine la rfl <| soN 0 Sz_40 rfl ⟨rfl, rfl, h1.one, h2.one, h3.one, trivial⟩ rfl ?_
  refine en <| sr <| ld5 Tn_40 0 rfl <| ld2 Tn_29 1 rfl ?_
  obtain ⟨x2, hx2, h⟩ := bs h
  refine lc (k_call (js := []) (R := [ob u1, X1]) Fun_43 rfl rfl (fun w1 hw ap hl => m_i_matchesIn_ok hw.fro N x1 p1 h1 h2 h3 ph1_0  hx2)) rfl (fun v4 Φ_2 F2 q1 => ?_)
  obtain ⟨ap1, fr1, v5, D2, rfl, rfl, h4⟩ := q1
  obtain ⟨_, hlen, h⟩ := bs h
  have t4 := h4.tail (lenok_le hlen)
  replace ph1_0 := ph1_0.frame RTItem.lasts fr1 (ap1.o pa1_0)
  replace ph0_0 := ph0_0.frame RTRule.lasts fr1 (ap1.o pa0_0)
  replace k2 := k2.frame OTMatch.lasts fr1 (ap1.r (i := 0) rfl) (Dj.sub (ap1.r (i := 1) rfl) i1.sub)
  refine lq (q_lenR Sl_32 rfl rfl (h4.rslG OTMatch.gives)) rfl <| la rfl <| en <| blk ?_
  refine loop_in (σ := Hp × (List TMatch) × Value × List Nat × Int × List Nat) (fun s => [(3, .pointer (some ⟨b_2, 0, none⟩)), (5, s.2.2.1), (6, .int .i64 s2), (11, pv0_0), (12, .int .i64 (p0.Rules.length : Int)), (13, .int .i64 s2), (20, v4), (21, .int .i64 (x2.length : Int)), (22, .int .i64 s.2.2.2.2.1)]) (fun s => St w0 s.1 [(b_2, .cells #[pv1_0, .int .i64 p1.Next] 29 (0, 0))] [ob v4, D2, ob s.2.2.1, X1]) (fun m s => m_i_allIn_l2 N s2 (m_i_allIn_l1 N p0 p1 n1) x2 m s.2.1 s.2.2.2.2.1 = some r ∧ (OSl OTMatch 44 3 s.1 s.2.2.2.1 s.2.2.1 s.2.1) ∧ (SP (s.2.2.2.1 ++ s.2.2.2.2.2) (X1 ++ D2)) ∧ (TSl OTMatch 3 s.1 s.2.2.2.2.2 v4 x2 s.2.2.2.2.1) ∧ (RSl RTItem 3 s.1 pG1_0 pv1_0 p1.Items) ∧ (RSl RTRule 5 s.1 pG0_0 pv0_0 p0.Rules)) (Φ_2, s1, u1, D1, 0, D2) N ⟨h, k2, i1.in1 rfl, t4, ph1_0, ph0_0⟩ ⟨rfl, rfl, rfl, rfl, rfl, rfl, rfl, rfl, rfl, trivial⟩ (fun w1 hw => (hw.sel (js := [0, 0, 0, 0]) rfl).selO (js := [1]) rfl) (fun s hm => none_ne hm.1) (fun n2 ih2 s hm => ?_)
  obtain ⟨Φ_3, s3, u2, D3, s4, Dt⟩ := s
  obtain ⟨h, k3, i2, h4, ph1_0, ph0_0⟩ := hm
  dsimp only at h k3 i2 h4 ph1_0 ph0_0 ⊢
  unfold m_i_allIn_l2 at h
  refine sr <| la rfl <| en <| sq ?_
  refine cdh rfl h (fun c2 h => ?_) (fun c2 h => ?_)
  ·refine WT.skip <| sq <| blk <| sr ?_
   obtain ⟨x3, hx3, h⟩ := bs h
   obtain ⟨cs2, F3, D9, -, g2, hb2, r2, hD9, t9⟩ := h4.step OTMatch.knows hx3
   obtain ⟨v6, v7, rfl, rfl, h5, h6⟩ := r2
   have h7 := h5.rsl
   have h8 := h6.rsl
   refine lq (q_indexAddrT Sl_32 rfl rfl h4 hx3) rfl <| lg3 0 Tn_44 g2 rfl rfl ?_
   refine ln (nz Zr_44) rfl (fun b_4 => ?_)
   refine soN 0 Sz_44 rfl ⟨rfl, h7.one, h8.one, trivial⟩ rfl ?_
   refine en <| sr <| la rfl <| lf Fld_44_0 rfl rfl rfl <| so1 0 Sz_3 rfl rfl ?_
   refine en <| rgn <| la rfl <| ld3 Tn_44 0 rfl ?_
   have rc1 : RC OTMatch 3 Φ_3 ([(ob v6 ++ []) ++ ((ob v7 ++ []))] : List (List Nat)) [.int .i64 s2, v6, v7] ([(⟨s2, x3.Ids, x3.Binds⟩ : TMatch)] : List TMatch) := RC.cons (c := [.int .i64 s2, v6, v7]) (cells := []) ⟨v6, v7, rfl, rfl, h5, h6⟩ rfl (RC.nil _ _ _)
   refine le' (e_lit (vs := [(0, .agg [.int .i64 s2, v6, v7].toArray)]) (C := #[.int .i64 s2, v6, v7]) OTMatch.lasts Sl_32 Zr_44 rfl rfl rfl rfl (fill_made MC_44_1 (fill_cons (C' := [.int .i64 s2, v6, v7]) rfl rfl rfl rfl rfl (fill_nil))) rfl rc1 rfl (RC.kn OTMatch.knows rc1)) rfl (fun v8 Φ_4 D4 q2 => ?_)
   obtain ⟨fr2, h9⟩ := q2
   replace h9 : OSl OTMatch 44 3 Φ_4 ((ob v6 ++ []) ++ ((ob v7 ++ []))) v8 ([(⟨s2, x3.Ids, x3.Binds⟩ : TMatch)] : List TMatch) := by simpa [List.append_assoc] using h9
   replace ph1_0 := ph1_0.frame RTItem.lasts fr2 (Dj.empty _)
   replace ph0_0 := ph0_0.frame RTRule.lasts fr2 (Dj.empty _)
   replace k3 := k3.frame OTMatch.lasts fr2 (Dj.empty _) (Dj.empty _)
   replace t9 := t9.frame OTMatch.lasts fr2 (Dj.empty _) (Dj.empty _)
   obtain ⟨x4, hx4, h⟩ := bs h
   refine le' (e_appO OTMatch.lasts OTMatch.one Sl_32 Ei_44 rfl rfl rfl rfl rfl (js := [3]) (Rr := [ob v8, ob v4, D2, X1]) rfl k3 h9 (fun ap => Dj.sub (Dj.app (ap.r (i := 3) rfl) (ap.r (i := 2) rfl)) i2.inl) (fun ap => Dj.sub (Dj.app (ap.r (i := 3) rfl) (ap.r (i := 2) rfl)) (fun k hk => i2.inr k (by rw [hD9]; exact List.mem_append.2 (.inl hk)))) hx4) rfl (fun v9 Φ_5 D5 q3 => ?_)
   obtain ⟨⟨ap2, fr3⟩, h10⟩ := q3
   replace ph1_0 := ph1_0.frame RTItem.lasts fr3 (ap2.o pa1_0)
   replace ph0_0 := ph0_0.frame RTRule.lasts fr3 (ap2.o pa0_0)
   replace t9 := t9.frame OTMatch.lasts fr3 (ap2.r (i := 1) rfl) (Dj.sub (Dj.app (ap2.r (i := 3) rfl) (ap2.r (i := 2) rfl)) (fun k hk => i2.inr k (by rw [hD9]; exact List.mem_append.2 (.inr hk))))
   refine la rfl <| en <| ib <| rgn <| la rfl <| la rfl <| en ?_
   exact lback (ih2 (Φ_5, x4, v9, (D3 ++ ((ob v6 ++ []) ++ ((ob v7 ++ [])))), IntKind.i64.wrap (s4 + 1), D9) ⟨h, h10, i2.next hD9, t9, ph1_0, ph0_0⟩) ⟨rfl, rfl, rfl, rfl, rfl, rfl, rfl, rfl, rfl, trivial⟩ (fun w1 hw => (hw.sel (js := [2, 2, 0, 1]) rfl).selO (js := [1]) rfl)
  refine xt rfl <| ib <| rgn <| la rfl <| la rfl <| en <| WT.conv (S' := St w0 Φ_3 [(b_2, .cells #[pv1_0, .int .i64 p1.Next] 29 (0, 0))] [(X1 ++ (D2)), ob v4, ob u2]) (fun w1 hw => hw.merge (js := [3, 1]) rfl (SP.eq (by simp [List.append_assoc]))) ?_
  exact lback (ih1 (Φ_3, (X1 ++ (D2)), s3, u2, D3, IntKind.i64.wrap (s2 + 1)) ⟨h, k3, i2.out, ph1_0, ph0_0⟩) ⟨rfl, rfl, rfl, rfl, rfl, trivial⟩ (fun w1 hw => (hw.sel (js := [2, 0]) rfl).selO (js := [0]) rfl)
 refine xt rfl <| sr <| la rfl <| la rfl <| en ?_
 refine WT.ret Tryz.func37 (resOk.one rfl) (fun w1 hw => ?_)
 subst hb0
 cases h
 replace hw := hw.merge (js := [1]) (F := D1) rfl (by simpa using i1)
 refine postG_of_St (js := [1, 0]) hw rfl ⟨u1, D1, rfl, rfl, k2⟩
theorem m_i_AllMatches_ok {Φ : Hp} {w : World} (hΦ : In Φ w) (N : Nat) (p0 : TDef) (p1 : TStore) {pv0_0 pv1_0 : Value} {pG0_0 pG1_0 : List Nat} (ph0_0 : RSl RTRule 5 Φ pG0_0 pv0_0 p0.Rules) (ph1_0 : RSl RTItem 3 Φ pG1_0 pv1_0 p1.Items) {r : (List TMatch)} (h : m_i_AllMatches N p0 p1 = some r) :
  Calls Tryz.prog 8 [.agg [.string p0.Name, pv0_0].toArray, .agg [pv1_0, .int .i64 p1.Next].toArray].toArray w (PostG Φ w [] (fun Φ' Fs v => ∃ (sr_0_0 : Value) (Dr_0_0 : List Nat), v = sr_0_0 ∧ Fs = [ob sr_0_0, Dr_0_0] ∧ OSl OTMatch 44 3 Φ' Dr_0_0 sr_0_0 r)) := by
 refine enter Tryz.func8 rfl Tryz.ntmps8 rfl (St.start0 hΦ) ?_
 unfold m_i_AllMatches at h
 refine sr ?_
 refine ln (nb rfl) rfl (fun b_1 => ?_)
 refine ln (nb rfl) rfl (fun b_2 => ?_)
 refine la rfl <| en <| sq <| sr <| ld2 Tn_26 1 rfl ?_
 obtain ⟨x1, hx1, h⟩ := bs h
 refine lp (p_call Fun_35 rfl (fun w1 hw => m_i_DefOk_ok hw.fro N p0 ph0_0 hx1)) rfl <| la rfl <| la rfl ?_
 obtain ⟨b1, hb_1, h⟩ := bs h
 refine WL.cutN 4 [(12, .bool b1), (2, .pointer (some ⟨b_1, 0, none⟩)), (3, .pointer (some ⟨b_2, 0, none⟩))] ?_ (fun K => ?_)
 rotate_left
 ·refine spl 8 rfl hb_1 (fun c1 hb_1 => ?_) (fun c1 hb_1 => ?_)
  ·refine la rfl <| la rfl <| la rfl <| la rfl ?_
   cases hb_1
   exact kk K ⟨rfl, rfl, rfl, trivial⟩
  ·refine ly rfl rfl <| ld2 Tn_29 0 rfl <| ly rfl rfl ?_
   obtain ⟨x2, hx2, hb_1⟩ := bs hb_1
   refine lp (p_call Fun_36 rfl (fun w1 hw => m_i_StoreOk_ok hw.fro N p1 ph1_0 hx2)) rfl <| ly rfl rfl <| la rfl <| la rfl ?_
   cases hb_1
   exact kk K ⟨rfl, rfl, rfl, trivial⟩
 refine en ?_
 refine cdh rfl h (fun c2 h => ?_) (fun c2 h => ?_)
 ·refine sr <| la rfl <| en ?_
  refine WT.ret Tryz.func8 (resOk.one rfl) (fun w1 hw => ?_)
  cases h
  replace hw := hw.addNil
  replace hw := hw.addNil
  refine postG_of_St (js := [1, 0]) hw rfl ⟨.slice none 0 0, [], rfl, rfl, OSl.nil _ _ _ _⟩
 refine WT.skip <| sr <| ld2 Tn_26 1 rfl <| ld2 Tn_29 0 rfl ?_
 obtain ⟨x3, hx3, h⟩ := bs h
 refine lc (k_call (js := []) (R := []) Fun_37 rfl rfl (fun w1 hw ap hl => m_i_allIn_ok hw.fro N p0 p1 ph0_0 ph1_0  hx3)) rfl (fun v1 Φ_1 F1 q1 => ?_)
 obtain ⟨ap1, fr1, v2, D1, rfl, rfl, h1⟩ := q1
 refine la rfl <| en ?_
 refine WT.ret Tryz.func8 (resOk.one rfl) (fun w1 hw => ?_)
 cases h
 refine postG_of_St (js := [0, 0]) hw rfl ⟨v1, D1, rfl, rfl, h1⟩
theorem m_s_l1In_ok {Φ : Hp} {w : World} (hΦ : In Φ w) (N : Nat) (p0 : Int) (p1 : Int) (p2 : Int)   {r : Bool} (h : m_s_l1In N p0 p1 p2 = some r) :
  Calls Tryz.prog 41 [.int .i64 p0, .int .i64 p1, .int .i64 p2].toArray w (Post (.bool r) w) := by
 refine enter Tryz.func41 rfl Tryz.ntmps41 rfl (St.start0 hΦ) ?_
 unfold m_s_l1In at h
 refine sr <| la rfl <| en <| sr <| la rfl <| la rfl <| la rfl <| la rfl ?_
 obtain ⟨b1, hb_1, h⟩ := bs h
 refine WL.cutN 4 [(14, .bool b1), (6, .bool false)] ?_ (fun K => ?_)
 rotate_left
 ·refine spl 10 rfl hb_1 (fun c1 hb_1 => ?_) (fun c1 hb_1 => ?_)
  ·refine ly rfl rfl <| la rfl <| ly rfl rfl <| la rfl <| ly rfl rfl <| la rfl <| la rfl ?_
   cases hb_1
   exact kk K ⟨rfl, rfl, trivial⟩
  ·refine la rfl <| la rfl <| la rfl <| la rfl ?_
   cases hb_1
   exact kk K ⟨rfl, rfl, trivial⟩
 refine la rfl <| en ?_
 refine WT.ret Tryz.func41 (resOk.one rfl) (fun w1 hw => ?_)
 cases h
 exact post_of_St hw
theorem m_s_l1Letter_ok {Φ : Hp} {w : World} (hΦ : In Φ w) (N : Nat) (p0 : Int)   {r : Bool} (h : m_s_l1Letter N p0 = some r) :
  Calls Tryz.prog 90 [.int .u8 p0].toArray w (Post (.bool r) w) := by
 refine enter Tryz.func90 rfl Tryz.ntmps90 rfl (St.start0 hΦ) ?_
 unfold m_s_l1Letter at h
 refine sr <| la rfl <| en <| sr <| la rfl <| lq (q_convI Ik_5 Ik_3 rfl) rfl ?_
 obtain ⟨x1, hx1, h⟩ := bs h
 refine lp (p_call Fun_41 rfl (fun w1 hw => m_s_l1In_ok hw.fro N (IntKind.i64.wrap p0) 97 122 hx1)) rfl <| la rfl ?_
 obtain ⟨b1, hb_1, h⟩ := bs h
 refine WL.cutN 4 [(10, .bool b1), (0, .int .u8 p0), (2, .bool false)] ?_ (fun K => ?_)
 rotate_left
 ·refine spl 6 rfl hb_1 (fun c1 hb_1 => ?_) (fun c1 hb_1 => ?_)
  ·refine la rfl <| la rfl <| la rfl <| la rfl ?_
   cases hb_1
   exact kk K ⟨rfl, rfl, rfl, trivial⟩
  ·refine ly rfl rfl <| la rfl <| ly rfl rfl <| lq (q_convI Ik_5 Ik_3 rfl) rfl <| ly rfl rfl ?_
   obtain ⟨x2, hx2, hb_1⟩ := bs hb_1
   refine lp (p_call Fun_41 rfl (fun w1 hw => m_s_l1In_ok hw.fro N (IntKind.i64.wrap p0) 48 57 hx2)) rfl <| la rfl ?_
   cases hb_1
   exact kk K ⟨rfl, rfl, rfl, trivial⟩
 refine la rfl ?_
 obtain ⟨b2, hb_2, h⟩ := bs h
 refine WL.cutN 3 [(14, .bool b2), (2, .bool false)] ?_ (fun K => ?_)
 rotate_left
 ·refine spl 11 rfl hb_2 (fun c2 hb_2 => ?_) (fun c2 hb_2 => ?_)
  ·refine la rfl <| la rfl <| la rfl ?_
   cases hb_2
   exact kk K ⟨rfl, rfl, trivial⟩
  ·refine ly rfl rfl <| la rfl <| ly rfl rfl <| la rfl <| la rfl ?_
   cases hb_2
   exact kk K ⟨rfl, rfl, trivial⟩
 refine la rfl <| en ?_
 refine WT.ret Tryz.func90 (resOk.one rfl) (fun w1 hw => ?_)
 cases h
 exact post_of_St hw
theorem m_s_NameOk_ok {Φ : Hp} {w : World} (hΦ : In Φ w) (N : Nat) (p0 : ByteArray)   {r : Bool} (h : m_s_NameOk N p0 = some r) :
  Calls Tryz.prog 40 [.string p0].toArray w (Post (.bool r) w) := by
 refine enter Tryz.func40 rfl Tryz.ntmps40 rfl (St.start0 hΦ) ?_
 generalize hb0 : (⟨w, [], Φ⟩ : Base) = w0
 unfold m_s_NameOk at h
 refine sr <| la rfl <| en <| sq <| sr <| la rfl <| en <| blk ?_
 refine loop_in (σ := Int) (fun s => [(0, .string p0), (3, .int .i64 s)]) (fun s => St w0 Φ [] []) (fun m s => m_s_NameOk_l1 N p0 m s = some r) (0) N h ⟨rfl, rfl, trivial⟩ (fun w1 hw => (hw.sel (js := []) rfl).selO (js := []) rfl) (fun s hm => none_ne hm) (fun n1 ih1 s hm => ?_)
 revert hm; revert s; intro s1 hm
 have h : m_s_NameOk_l1 N p0 (n1 + 1) s1 = some r := hm
 show WT _ _ [(0, .string p0), (3, .int .i64 s1)] (St w0 Φ [] [])
 unfold m_s_NameOk_l1 at h
 refine sq <| sr <| la rfl <| la rfl <| lq (q_lenS Str_9 rfl rfl) rfl <| la rfl <| en ?_
 refine cdh rfl h (fun c1 h => ?_) (fun c1 h => ?_)
 ·refine WT.skip <| sq <| blk <| sr <| la rfl <| la rfl ?_
  obtain ⟨y1, hy1, h⟩ := bs h
  refine lq (q_indexS Str_9 rfl rfl hy1) rfl ?_
  obtain ⟨x1, hx1, h⟩ := bs h
  refine lp (p_call Fun_90 rfl (fun w1 hw => m_s_l1Letter_ok hw.fro N (y1.toNat : Int) hx1)) rfl <| la rfl <| la rfl ?_
  obtain ⟨b1, hb_1, h⟩ := bs h
  refine WL.cutN 11 [(26, .bool b1), (0, .string p0), (3, .int .i64 s1)] ?_ (fun K => ?_)
  rotate_left
  ·refine spl 15 rfl hb_1 (fun c2 hb_1 => ?_) (fun c2 hb_1 => ?_)
   ·refine la rfl <| la rfl <| la rfl <| WL.nox rfl rfl rfl rfl <| WL.nox rfl rfl rfl rfl <| WL.nox rfl rfl rfl rfl <| WL.nox rfl rfl rfl rfl <| WL.nox rfl rfl rfl rfl <| WL.nox rfl rfl rfl rfl <| la rfl <| la rfl ?_
    cases hb_1
    exact kk K ⟨rfl, rfl, rfl, trivial⟩
   ·refine ly rfl rfl <| la rfl <| ly rfl rfl <| la rfl <| ly rfl rfl <| la rfl ?_
    obtain ⟨b2, hb_2, hb_1⟩ := bs hb_1
    refine WL.cutN 7 [(25, .bool b2), (0, .string p0), (3, .int .i64 s1), (15, .bool false)] ?_ (fun K => ?_)
    rotate_left
    ·refine spl 18 rfl hb_2 (fun c3 hb_2 => ?_) (fun c3 hb_2 => ?_)
     ·refine ly rfl rfl <| la rfl <| ly rfl rfl <| la rfl <| ly rfl rfl ?_
      obtain ⟨y2, hy2, hb_2⟩ := bs hb_2
      refine lq (q_indexS Str_9 rfl rfl hy2) rfl <| ly rfl rfl <| lq (q_convI Ik_5 Ik_3 rfl) rfl <| ly rfl rfl ?_
      obtain ⟨x2, hx2, hb_2⟩ := bs hb_2
      refine lp (p_call Fun_41 rfl (fun w1 hw => m_s_l1In_ok hw.fro N (IntKind.i64.wrap (y2.toNat : Int)) 97 122 hx2)) rfl <| ly rfl rfl <| la rfl <| ly rfl rfl <| la rfl ?_
      cases hb_2
      exact kk K ⟨rfl, rfl, rfl, rfl, trivial⟩
     ·refine la rfl <| la rfl <| la rfl <| la rfl <| la rfl <| la rfl <| ly rfl rfl <| la rfl ?_
      cases hb_2
      exact kk K ⟨rfl, rfl, rfl, rfl, trivial⟩
    refine la rfl ?_
    cases hb_1
    exact kk K ⟨rfl, rfl, rfl, trivial⟩
  refine en ?_
  refine cdh rfl h (fun c4 h => ?_) (fun c4 h => ?_)
  ·refine sr <| la rfl <| en ?_
   refine WT.ret Tryz.func40 (resOk.one rfl) (fun w1 hw => ?_)
   subst hb0
   cases h
   exact post_of_St hw
  refine WT.skip <| ib <| rgn <| la rfl <| la rfl <| la rfl <| en ?_
  exact lback (ih1 (IntKind.i64.wrap (s1 + 1)) h) ⟨rfl, rfl, trivial⟩ (fun w1 hw => (hw.sel (js := []) rfl).selO (js := []) rfl)
 refine xt rfl <| sr <| la rfl <| lq (q_lenS Str_9 rfl rfl) rfl ?_
 obtain ⟨x3, hx3, h⟩ := bs h
 refine lp (p_call Fun_41 rfl (fun w1 hw => m_s_l1In_ok hw.fro N (p0.size : Int) 1 12 hx3)) rfl <| la rfl <| en ?_
 refine WT.ret Tryz.func40 (resOk.one rfl) (fun w1 hw => ?_)
 subst hb0
 cases h
 exact post_of_St hw
theorem m_s_l6Has_ok {Φ : Hp} {w : World} (hΦ : In Φ w) (N : Nat) (p0 : (List ByteArray)) (p1 : ByteArray) {pv0 : Value} {pG0 : List Nat} (ph0 : RSl RS 1 Φ pG0 pv0 p0) {r : Bool} (h : m_s_l6Has N p0 p1 = some r) :
  Calls Tryz.prog 138 [pv0, .string p1].toArray w (Post (.bool r) w) := by
 refine enter Tryz.func138 rfl Tryz.ntmps138 rfl (St.start0 hΦ) ?_
 generalize hb0 : (⟨w, [], Φ⟩ : Base) = w0
 unfold m_s_l6Has at h
 refine sr <| la rfl <| en <| sq <| sr <| la rfl <| en <| blk ?_
 refine loop_in (σ := Int) (fun s => [(0, pv0), (1, .string p1), (5, .int .i64 s)]) (fun s => St w0 Φ [] []) (fun m s => m_s_l6Has_l1 N p0 p1 m s = some r) (0) N h ⟨rfl, rfl, rfl, trivial⟩ (fun w1 hw => (hw.sel (js := []) rfl).selO (js := []) rfl) (fun s hm => none_ne hm) (fun n1 ih1 s hm => ?_)
 revert hm; revert s; intro s1 hm
 have h : m_s_l6Has_l1 N p0 p1 (n1 + 1) s1 = some r := hm
 show WT _ _ [(0, pv0), (1, .string p1), (5, .int .i64 s1)] (St w0 Φ [] [])
 unfold m_s_l6Has_l1 at h
 refine sq <| sr <| la rfl <| la rfl <| lq (q_lenR Sl_114 rfl rfl ph0) rfl <| la rfl <| en ?_
 refine cdh rfl h (fun c1 h => ?_) (fun c1 h => ?_)
 ·refine WT.skip <| sq <| blk <| sr <| la rfl <| la rfl ?_
  obtain ⟨x1, hx1, h⟩ := bs h
  obtain ⟨cs1, F1, -, g1, hb1, hs1, r1⟩ := ph0.el (idx_some hx1).2.2
  obtain ⟨rfl, -⟩ := r1
  refine lq (q_indexAddr Sl_114 rfl rfl ph0 hx1) rfl <| lg 0 T1_9 g1 rfl rfl <| la rfl <| la rfl <| en ?_
  refine cdh rfl h (fun c2 h => ?_) (fun c2 h => ?_)
  ·refine sr <| la rfl <| en ?_
   refine WT.ret Tryz.func138 (resOk.one rfl) (fun w1 hw => ?_)
   subst hb0
   cases h
   exact post_of_St hw
  refine WT.skip <| ib <| rgn <| la rfl <| la rfl <| la rfl <| en ?_
  exact lback (ih1 (IntKind.i64.wrap (s1 + 1)) h) ⟨rfl, rfl, rfl, trivial⟩ (fun w1 hw => (hw.sel (js := []) rfl).selO (js := []) rfl)
 refine xt rfl <| sr <| la rfl <| en ?_
 refine WT.ret Tryz.func138 (resOk.one rfl) (fun w1 hw => ?_)
 subst hb0
 cases h
 exact post_of_St hw
theorem m_s_VarsOf_ok {Φ : Hp} {w : World} (hΦ : In Φ w) (N : Nat) (p0 : TPat) {pv0_0 : Value} {pG0_0 : List Nat} (ph0_0 : RSl RTArg 5 Φ pG0_0 pv0_0 p0.Args) {r : (List ByteArray)} (h : m_s_VarsOf N p0 = some r) :
  Calls Tryz.prog 137 [.agg [.string p0.Kind, pv0_0, .bool p0.Not].toArray].toArray w (PostG Φ w [] (fun Φ' Fs v => ∃ (sr_0_0 : Value), v = sr_0_0 ∧ Fs = [ob sr_0_0] ∧ OSl RS 9 1 Φ' [] sr_0_0 r)) := by
 refine enter Tryz.func137 rfl Tryz.ntmps137 rfl (St.start0 hΦ) ?_
 have pa0_0 := Old.mk hΦ ph0_0.kn (Dj.empty _)
 revert pa0_0
 generalize hb0 : (⟨w, [], Φ⟩ : Base) = w0
 intro pa0_0
 unfold m_s_VarsOf at h
 refine sr ?_
 refine ln (nb rfl) rfl (fun b_1 => ?_)
 refine la rfl <| en <| sr ?_
 refine le' (e_lit0 RS.lasts Sl_114 Zr_9 rfl rfl) rfl (fun v1 Φ_1 D1 q1 => ?_)
 obtain ⟨fr1, h1⟩ := q1
 replace ph0_0 := ph0_0.frame RTArg.lasts fr1 (Dj.empty _)
 refine la rfl <| en <| sq <| sr <| la rfl <| en <| blk ?_
 refine loop_in (σ := Hp × (List ByteArray) × Value × Int) (fun s => [(1, .pointer (some ⟨b_1, 0, none⟩)), (3, s.2.2.1), (4, .int .i64 s.2.2.2)]) (fun s => St w0 s.1 [(b_1, .cells #[.string p0.Kind, pv0_0, .bool p0.Not] 171 (0, 0))] [ob s.2.2.1]) (fun m s => m_s_VarsOf_l1 N p0 m s.2.1 s.2.2.2 = some r ∧ (OSl RS 9 1 s.1 [] s.2.2.1 s.2.1) ∧ (RSl RTArg 5 s.1 pG0_0 pv0_0 p0.Args)) (Φ_1, ([] : List ByteArray), v1, 0) N ⟨h, h1, ph0_0⟩ ⟨rfl, rfl, rfl, trivial⟩ (fun w1 hw => (hw.sel (js := [0]) rfl).selO (js := [0]) rfl) (fun s hm => none_ne hm.1) (fun n1 ih1 s hm => ?_)
 obtain ⟨Φ_2, s1, u1, s2⟩ := s
 obtain ⟨h, k1, ph0_0⟩ := hm
 dsimp only at h k1 ph0_0 ⊢
 unfold m_s_VarsOf_l1 at h
 refine sq <| sr <| la rfl <| lf Fld_171_1 rfl rfl rfl <| lo T1_169 0 rfl <| lq (q_lenR Sl_169 rfl rfl ph0_0) rfl <| la rfl <| en ?_
 refine cdh rfl h (fun c1 h => ?_) (fun c1 h => ?_)
 ·refine WT.skip <| sq <| blk <| sr <| lf Fld_171_1 rfl rfl rfl <| lo T1_169 0 rfl <| la rfl ?_
  obtain ⟨x1, hx1, h⟩ := bs h
  obtain ⟨cs1, F1, -, g1, hb1, hs1, r1⟩ := ph0_0.el (idx_some hx1).2.2
  obtain ⟨rfl, -⟩ := r1
  refine lq (q_indexAddr Sl_169 rfl rfl ph0_0 hx1) rfl <| lf Fld_137_0 rfl rfl rfl <| lg 0 T1_3 g1 rfl rfl <| la rfl <| la rfl ?_
  obtain ⟨b1, hb_1, h⟩ := bs h
  refine WL.cutN 10 [(30, .bool b1), (1, .pointer (some ⟨b_1, 0, none⟩)), (3, u1), (4, .int .i64 s2)] ?_ (fun K => ?_)
  rotate_left
  ·refine spl 20 rfl hb_1 (fun c2 hb_1 => ?_) (fun c2 hb_1 => ?_)
   ·refine ly rfl rfl <| la rfl <| ly rfl rfl <| lf Fld_171_1 rfl rfl rfl <| ly rfl rfl <| lo T1_169 0 rfl <| ly rfl rfl <| la rfl <| ly rfl rfl ?_
    obtain ⟨x2, hx2, hb_1⟩ := bs hb_1
    obtain ⟨cs2, F2, -, g2, hb2, hs2, r2⟩ := ph0_0.el (idx_some hx2).2.2
    obtain ⟨rfl, -⟩ := r2
    refine lq (q_indexAddr Sl_169 rfl rfl ph0_0 hx2) rfl <| ly rfl rfl <| lf Fld_137_1 rfl rfl rfl <| ly rfl rfl <| lg 1 T1_9 g2 rfl rfl <| ly rfl rfl ?_
    obtain ⟨x3, hx3, hb_1⟩ := bs hb_1
    refine lp (p_call Fun_138 rfl (fun w1 hw => m_s_l6Has_ok hw.fro N s1 x2.S k1.rsl hx3)) rfl <| ly rfl rfl <| la rfl <| la rfl ?_
    cases hb_1
    exact kk K ⟨rfl, rfl, rfl, rfl, trivial⟩
   ·refine la rfl <| la rfl <| la rfl <| la rfl <| la rfl <| la rfl <| la rfl <| la rfl <| la rfl <| la rfl ?_
    cases hb_1
    exact kk K ⟨rfl, rfl, rfl, rfl, trivial⟩
  refine en ?_
  refine cdh rfl h (fun c3 h => ?_) (fun c3 h => ?_)
  ·refine rgn <| la rfl <| lf Fld_171_1 rfl rfl rfl <| lo T1_169 0 rfl <| la rfl ?_
   obtain ⟨x4, hx4, h⟩ := bs h
   obtain ⟨cs3, F3, -, g3, hb3, hs3, r3⟩ := ph0_0.el (idx_some hx4).2.2
   obtain ⟨rfl, -⟩ := r3
   refine lq (q_indexAddr Sl_169 rfl rfl ph0_0 hx4) rfl <| lf Fld_137_1 rfl rfl rfl <| lg 1 T1_9 g3 rfl rfl ?_
   have rc2 : RC RS 1 Φ_2 ([[]] : List (List Nat)) [.string x4.S] ([x4.S] : List ByteArray) := RC.cons (c := [.string x4.S]) (cells := []) ⟨rfl, rfl⟩ rfl (RC.nil _ _ _)
   refine le' (e_lit (vs := [(0, .string x4.S)]) (C := #[.string x4.S]) RS.lasts Sl_114 Zr_9 rfl rfl rfl rfl (fill_made MC_9_1 (fill_cons (C' := [.string x4.S]) rfl rfl rfl rfl rfl (fill_nil))) rfl rc2 rfl (by simpa using Kw.nil)) rfl (fun v2 Φ_3 D2 q2 => ?_)
   obtain ⟨fr2, h2⟩ := q2
   replace h2 : OSl RS 9 1 Φ_3 [] v2 ([x4.S] : List ByteArray) := by simpa using h2
   replace ph0_0 := ph0_0.frame RTArg.lasts fr2 (Dj.empty _)
   replace k1 := k1.frame RS.lasts fr2 (Dj.empty _) (Dj.empty _)
   obtain ⟨x5, hx5, h⟩ := bs h
   refine le' (e_appF RS.lasts RS.one RS.flat Sl_114 Ei_9 rfl rfl rfl rfl rfl (js := [1]) (Rr := [ob v2]) rfl k1 h2.rsl hx5) rfl (fun v3 Φ_4 D3 q3 => ?_)
   obtain ⟨⟨ap1, fr3⟩, h3⟩ := q3
   replace ph0_0 := ph0_0.frame RTArg.lasts fr3 (ap1.o pa0_0)
   refine la rfl <| en <| ib <| rgn <| la rfl <| la rfl <| la rfl <| en ?_
   exact lback (ih1 (Φ_4, x5, v3, IntKind.i64.wrap (s2 + 1)) ⟨h, h3, ph0_0⟩) ⟨rfl, rfl, rfl, trivial⟩ (fun w1 hw => (hw.sel (js := [0]) rfl).selO (js := [0]) rfl)
  refine WT.skip <| ib <| rgn <| la rfl <| la rfl <| la rfl <| en ?_
  exact lback (ih1 (Φ_2, s1, u1, IntKind.i64.wrap (s2 + 1)) ⟨h, k1, ph0_0⟩) ⟨rfl, rfl, rfl, trivial⟩ (fun w1 hw => (hw.sel (js := [0]) rfl).selO (js := [0]) rfl)
 refine xt rfl <| sr <| la rfl <| la rfl <| en ?_
 refine WT.ret Tryz.func137 (resOk.one rfl) (fun w1 hw => ?_)
 subst hb0
 cases h
 refine postG_of_St (js := [0]) hw rfl ⟨u1, rfl, rfl, k1⟩
theorem m_s_PosVars_ok {Φ : Hp} {w : World} (hΦ : In Φ w) (N : Nat) (p0 : TRule) {pv0_0 pv0_1 pv0_2 : Value} {pG0_0 pG0_1 pG0_2 : List Nat} (ph0_0 : RSl RTPat 3 Φ pG0_0 pv0_0 p0.Pats) (ph0_1 : RSl RTCond 11 Φ pG0_1 pv0_1 p0.Conds) (ph0_2 : RSl RTAct 5 Φ pG0_2 pv0_2 p0.Acts) {r : (List ByteArray)} (h : m_s_PosVars N p0 = some r) :
  Calls Tryz.prog 85 [.agg [.string p0.Name, .int .i64 p0.Sal, pv0_0, pv0_1, pv0_2].toArray].toArray w (PostG Φ w [] (fun Φ' Fs v => ∃ (sr_0_0 : Value), v = sr_0_0 ∧ Fs = [ob sr_0_0] ∧ OSl RS 9 1 Φ' [] sr_0_0 r)) := by
 refine enter Tryz.func85 rfl Tryz.ntmps85 rfl (St.start0 hΦ) ?_
 have pa0_0 := Old.mk hΦ ph0_0.kn (Dj.empty _)
 have pa0_1 := Old.mk hΦ ph0_1.kn (Dj.empty _)
 have pa0_2 := Old.mk hΦ ph0_2.kn (Dj.empty _)
 revert pa0_0 pa0_1 pa0_2
 generalize hb0 : (⟨w, [], Φ⟩ : Base) = w0
 intro pa0_0 pa0_1 pa0_2
 unfold m_s_PosVars at h
 refine sr ?_
 refine ln (nb rfl) rfl (fun b_1 => ?_)
 refine la rfl <| en <| sr ?_
 refine le' (e_lit0 RS.lasts Sl_114 Zr_9 rfl rfl) rfl (fun v1 Φ_1 D1 q1 => ?_)
 obtain ⟨fr1, h1⟩ := q1
 replace ph0_0 := ph0_0.frame RTPat.lasts fr1 (Dj.empty _)
 replace ph0_1 := ph0_1.frame RTCond.lasts fr1 (Dj.empty _)
 replace ph0_2 := ph0_2.frame RTAct.lasts fr1 (Dj.empty _)
 refine la rfl <| en <| sq <| sr <| la rfl <| en <| blk ?_
 refine loop_in (σ := Hp × (List ByteArray) × Value × Int) (fun s => [(1, .pointer (some ⟨b_1, 0, none⟩)), (3, s.2.2.1), (4, .int .i64 s.2.2.2)]) (fun s => St w0 s.1 [(b_1, .cells #[.string p0.Name, .int .i64 p0.Sal, pv0_0, pv0_1, pv0_2] 40 (0, 0))] [ob s.2.2.1]) (fun m s => m_s_PosVars_l1 N p0 m s.2.1 s.2.2.2 = some r ∧ (OSl RS 9 1 s.1 [] s.2.2.1 s.2.1) ∧ (RSl RTPat 3 s.1 pG0_0 pv0_0 p0.Pats) ∧ (RSl RTCond 11 s.1 pG0_1 pv0_1 p0.Conds) ∧ (RSl RTAct 5 s.1 pG0_2 pv0_2 p0.Acts)) (Φ_1, ([] : List ByteArray), v1, 0) N ⟨h, h1, ph0_0, ph0_1, ph0_2⟩ ⟨rfl, rfl, rfl, trivial⟩ (fun w1 hw => (hw.sel (js := [0]) rfl).selO (js := [0]) rfl) (fun s hm => none_ne hm.1) (fun n1 ih1 s hm => ?_)
 obtain ⟨Φ_2, s1, u1, s2⟩ := s
 obtain ⟨h, k1, ph0_0, ph0_1, ph0_2⟩ := hm
 dsimp only at h k1 ph0_0 ph0_1 ph0_2 ⊢
 unfold m_s_PosVars_l1 at h
 refine sq <| sr <| la rfl <| lf Fld_40_2 rfl rfl rfl <| lo T1_36 0 rfl <| lq (q_lenR Sl_36 rfl rfl ph0_0) rfl <| la rfl <| en ?_
 refine cdh rfl h (fun c1 h => ?_) (fun c1 h => ?_)
 ·refine WT.skip <| sq <| blk <| sr <| lf Fld_40_2 rfl rfl rfl <| lo T1_36 0 rfl <| la rfl ?_
  obtain ⟨x1, hx1, h⟩ := bs h
  obtain ⟨cs1, F1, -, g1, hb1, hs1, r1⟩ := ph0_0.el (idx_some hx1).2.2
  obtain ⟨v2, G1, rfl, hq1, h2⟩ := r1
  obtain rfl := hq1.symm
  refine lq (q_indexAddr Sl_36 rfl rfl ph0_0 hx1) rfl <| lg3 0 Tn_171 g1 rfl rfl ?_
  obtain ⟨x2, hx2, h⟩ := bs h
  refine lc (k_call (js := []) (R := [ob u1]) Fun_137 rfl rfl (fun w1 hw ap hl => m_s_VarsOf_ok hw.fro N x1 h2  hx2)) rfl (fun v3 Φ_3 F2 q2 => ?_)
  obtain ⟨ap1, fr2, v4, rfl, rfl, h3⟩ := q2
  replace ph0_0 := ph0_0.frame RTPat.lasts fr2 (ap1.o pa0_0)
  replace ph0_1 := ph0_1.frame RTCond.lasts fr2 (ap1.o pa0_1)
  replace ph0_2 := ph0_2.frame RTAct.lasts fr2 (ap1.o pa0_2)
  replace k1 := k1.frame RS.lasts fr2 (ap1.r (i := 0) rfl) (Dj.nil _)
  refine la rfl <| en <| sr <| la rfl <| en <| blk ?_
  refine loop_in (σ := Hp × (List ByteArray) × Value × Int) (fun s => [(1, .pointer (some ⟨b_1, 0, none⟩)), (3, s.2.2.1), (4, .int .i64 s2), (5, v3), (6, .int .i64 s.2.2.2)]) (fun s => St w0 s.1 [(b_1, .cells #[.string p0.Name, .int .i64 p0.Sal, pv0_0, pv0_1, pv0_2] 40 (0, 0))] [ob v3, ob s.2.2.1]) (fun m s => m_s_PosVars_l2 N p0 s2 (m_s_PosVars_l1 N p0 n1) x2 m s.2.1 s.2.2.2 = some r ∧ (OSl RS 9 1 s.1 [] s.2.2.1 s.2.1) ∧ (OSl RS 9 1 s.1 [] v3 x2) ∧ (RSl RTPat 3 s.1 pG0_0 pv0_0 p0.Pats) ∧ (RSl RTCond 11 s.1 pG0_1 pv0_1 p0.Conds) ∧ (RSl RTAct 5 s.1 pG0_2 pv0_2 p0.Acts)) (Φ_3, s1, u1, 0) N ⟨h, k1, h3, ph0_0, ph0_1, ph0_2⟩ ⟨rfl, rfl, rfl, rfl, rfl, trivial⟩ (fun w1 hw => (hw.sel (js := [0, 0]) rfl).selO (js := [0]) rfl) (fun s hm => none_ne hm.1) (fun n2 ih2 s hm => ?_)
  obtain ⟨Φ_4, s3, u2, s4⟩ := s
  obtain ⟨h, k2, h3, ph0_0, ph0_1, ph0_2⟩ := hm
  dsimp only at h k2 h3 ph0_0 ph0_1 ph0_2 ⊢
  unfold m_s_PosVars_l2 at h
  refine sq <| sr <| la rfl <| la rfl <| lq (q_lenR Sl_114 rfl rfl h3.rsl) rfl <| la rfl <| la rfl ?_
  obtain ⟨b1, hb_1, h⟩ := bs h
  refine WL.cutN 8 [(33, .bool b1), (1, .pointer (some ⟨b_1, 0, none⟩)), (3, u2), (4, .int .i64 s2), (5, v3), (6, .int .i64 s4)] ?_ (fun K => ?_)
  rotate_left
  ·refine spl 25 rfl hb_1 (fun c2 hb_1 => ?_) (fun c2 hb_1 => ?_)
   ·refine ly rfl rfl <| lf Fld_40_2 rfl rfl rfl <| ly rfl rfl <| lo T1_36 0 rfl <| ly rfl rfl <| la rfl <| ly rfl rfl ?_
    obtain ⟨x3, hx3, hb_1⟩ := bs hb_1
    obtain ⟨cs2, F3, -, g2, hb2, hs2, r2⟩ := ph0_0.el (idx_some hx3).2.2
    obtain ⟨v5, G2, rfl, hq2, h4⟩ := r2
    obtain rfl := hq2.symm
    refine lq (q_indexAddr Sl_36 rfl rfl ph0_0 hx3) rfl <| ly rfl rfl <| lf Fld_171_2 rfl rfl rfl <| ly rfl rfl <| lg 2 T1_4 g2 rfl rfl <| ly rfl rfl <| la rfl <| la rfl ?_
    cases hb_1
    exact kk K ⟨rfl, rfl, rfl, rfl, rfl, rfl, trivial⟩
   ·refine la rfl <| la rfl <| la rfl <| la rfl <| la rfl <| la rfl <| la rfl <| la rfl ?_
    cases hb_1
    exact kk K ⟨rfl, rfl, rfl, rfl, rfl, rfl, trivial⟩
  refine en ?_
  refine cdh rfl h (fun c3 h => ?_) (fun c3 h => ?_)
  ·refine WT.skip <| sq <| blk <| sr <| la rfl <| la rfl <| la rfl ?_
   obtain ⟨x4, hx4, h⟩ := bs h
   obtain ⟨cs3, F4, -, g3, hb3, hs3, r3⟩ := h3.elS (idx_some hx4).2.2
   obtain ⟨rfl, -⟩ := r3
   refine lq (q_indexAddr Sl_114 rfl rfl h3.rsl hx4) rfl <| lg 0 T1_9 g3 rfl rfl ?_
   obtain ⟨x5, hx5, h⟩ := bs h
   refine lp (p_call Fun_138 rfl (fun w1 hw => m_s_l6Has_ok hw.fro N s3 x4 k2.rsl hx5)) rfl <| la rfl <| en ?_
   refine cdh rfl h (fun c4 h => ?_) (fun c4 h => ?_)
   ·refine rgn <| la rfl <| la rfl <| la rfl ?_
    obtain ⟨x6, hx6, h⟩ := bs h
    obtain ⟨cs4, F5, -, g4, hb4, hs4, r4⟩ := h3.elS (idx_some hx6).2.2
    obtain ⟨rfl, -⟩ := r4
    refine lq (q_indexAddr Sl_114 rfl rfl h3.rsl hx6) rfl <| lg 0 T1_9 g4 rfl rfl ?_
    have rc2 : RC RS 1 Φ_4 ([[]] : List (List Nat)) [.string x6] ([x6] : List ByteArray) := RC.cons (c := [.string x6]) (cells := []) ⟨rfl, rfl⟩ rfl (RC.nil _ _ _)
    refine le' (e_lit (vs := [(0, .string x6)]) (C := #[.string x6]) RS.lasts Sl_114 Zr_9 rfl rfl rfl rfl (fill_made MC_9_1 (fill_cons (C' := [.string x6]) rfl rfl rfl rfl rfl (fill_nil))) rfl rc2 rfl (by simpa using Kw.nil)) rfl (fun v6 Φ_5 D2 q3 => ?_)
    obtain ⟨fr3, h5⟩ := q3
    replace h5 : OSl RS 9 1 Φ_5 [] v6 ([x6] : List ByteArray) := by simpa using h5
    replace ph0_0 := ph0_0.frame RTPat.lasts fr3 (Dj.empty _)
    replace ph0_1 := ph0_1.frame RTCond.lasts fr3 (Dj.empty _)
    replace ph0_2 := ph0_2.frame RTAct.lasts fr3 (Dj.empty _)
    replace k2 := k2.frame RS.lasts fr3 (Dj.empty _) (Dj.empty _)
    replace h3 := h3.frame RS.lasts fr3 (Dj.empty _) (Dj.empty _)
    obtain ⟨x7, hx7, h⟩ := bs h
    refine le' (e_appF RS.lasts RS.one RS.flat Sl_114 Ei_9 rfl rfl rfl rfl rfl (js := [2]) (Rr := [ob v6, ob v3]) rfl k2 h5.rsl hx7) rfl (fun v7 Φ_6 D3 q4 => ?_)
    obtain ⟨⟨ap2, fr4⟩, h6⟩ := q4
    replace ph0_0 := ph0_0.frame RTPat.lasts fr4 (ap2.o pa0_0)
    replace ph0_1 := ph0_1.frame RTCond.lasts fr4 (ap2.o pa0_1)
    replace ph0_2 := ph0_2.frame RTAct.lasts fr4 (ap2.o pa0_2)
    replace h3 := h3.frame RS.lasts fr4 (ap2.r (i := 1) rfl) (Dj.nil _)
    refine la rfl <| en <| ib <| rgn <| la rfl <| la rfl <| la rfl <| en ?_
    exact lback (ih2 (Φ_6, x7, v7, IntKind.i64.wrap (s4 + 1)) ⟨h, h6, h3, ph0_0, ph0_1, ph0_2⟩) ⟨rfl, rfl, rfl, rfl, rfl, trivial⟩ (fun w1 hw => (hw.sel (js := [2, 0]) rfl).selO (js := [0]) rfl)
   refine WT.skip <| ib <| rgn <| la rfl <| la rfl <| la rfl <| en ?_
   exact lback (ih2 (Φ_4, s3, u2, IntKind.i64.wrap (s4 + 1)) ⟨h, k2, h3, ph0_0, ph0_1, ph0_2⟩) ⟨rfl, rfl, rfl, rfl, rfl, trivial⟩ (fun w1 hw => (hw.sel (js := [0, 0]) rfl).selO (js := [0]) rfl)
  refine xt rfl <| ib <| rgn <| la rfl <| la rfl <| la rfl <| en ?_
  exact lback (ih1 (Φ_4, s3, u2, IntKind.i64.wrap (s2 + 1)) ⟨h, k2, ph0_0, ph0_1, ph0_2⟩) ⟨rfl, rfl, rfl, trivial⟩ (fun w1 hw => (hw.sel (js := [1]) rfl).selO (js := [0]) rfl)
 refine xt rfl <| sr <| la rfl <| la rfl <| en ?_
 refine WT.ret Tryz.func85 (resOk.one rfl) (fun w1 hw => ?_)
 subst hb0
 cases h
 refine postG_of_St (js := [0]) hw rfl ⟨u1, rfl, rfl, k1⟩
theorem m_s_l2Plain_ok {Φ : Hp} {w : World} (hΦ : In Φ w) (N : Nat) (p0 : ByteArray)   {r : Bool} (h : m_s_l2Plain N p0 = some r) :
  Calls Tryz.prog 206 [.string p0].toArray w (Post (.bool r) w) := by
 refine enter Tryz.func206 rfl Tryz.ntmps206 rfl (St.start0 hΦ) ?_
 generalize hb0 : (⟨w, [], Φ⟩ : Base) = w0
 unfold m_s_l2Plain at h
 refine sr <| la rfl <| en <| sq <| sr <| la rfl <| en <| blk ?_
 refine loop_in (σ := Int) (fun s => [(0, .string p0), (3, .int .i64 s)]) (fun s => St w0 Φ [] []) (fun m s => m_s_l2Plain_l1 N p0 m s = some r) (0) N h ⟨rfl, rfl, trivial⟩ (fun w1 hw => (hw.sel (js := []) rfl).selO (js := []) rfl) (fun s hm => none_ne hm) (fun n1 ih1 s hm => ?_)
 revert hm; revert s; intro s1 hm
 have h : m_s_l2Plain_l1 N p0 (n1 + 1) s1 = some r := hm
 show WT _ _ [(0, .string p0), (3, .int .i64 s1)] (St w0 Φ [] [])
 unfold m_s_l2Plain_l1 at h
 refine sq <| sr <| la rfl <| la rfl <| lq (q_lenS Str_9 rfl rfl) rfl <| la rfl <| en ?_
 refine cdh rfl h (fun c1 h => ?_) (fun c1 h => ?_)
 ·refine WT.skip <| sq <| blk <| sr <| la rfl <| la rfl ?_
  obtain ⟨y1, hy1, h⟩ := bs h
  refine lq (q_indexS Str_9 rfl rfl hy1) rfl ?_
  obtain ⟨x1, hx1, h⟩ := bs h
  refine lp (p_call Fun_90 rfl (fun w1 hw => m_s_l1Letter_ok hw.fro N (y1.toNat : Int) hx1)) rfl <| la rfl <| en ?_
  refine cdh rfl h (fun c2 h => ?_) (fun c2 h => ?_)
  ·refine sr <| la rfl <| en ?_
   refine WT.ret Tryz.func206 (resOk.one rfl) (fun w1 hw => ?_)
   subst hb0
   cases h
   exact post_of_St hw
  refine WT.skip <| ib <| rgn <| la rfl <| la rfl <| la rfl <| en ?_
  exact lback (ih1 (IntKind.i64.wrap (s1 + 1)) h) ⟨rfl, rfl, trivial⟩ (fun w1 hw => (hw.sel (js := []) rfl).selO (js := []) rfl)
 refine xt rfl <| sr <| la rfl <| lq (q_lenS Str_9 rfl rfl) rfl <| la rfl <| la rfl <| en ?_
 refine WT.ret Tryz.func206 (resOk.one rfl) (fun w1 hw => ?_)
 subst hb0
 cases h
 exact post_of_St hw
theorem m_s_ValOk_ok {Φ : Hp} {w : World} (hΦ : In Φ w) (N : Nat) (p0 : TVal)   {r : Bool} (h : m_s_ValOk N p0 = some r) :
  Calls Tryz.prog 187 [.agg [.int .i64 p0.K, .int .i64 p0.N, .string p0.S].toArray].toArray w (Post (.bool r) w) := by
 refine enter Tryz.func187 rfl Tryz.ntmps187 rfl (St.start0 hΦ) ?_
 unfold m_s_ValOk at h
 refine sr ?_
 refine ln (nb rfl) rfl (fun b_1 => ?_)
 refine la rfl <| en <| sq <| sr <| lf Fld_85_0 rfl rfl rfl <| lo T1_3 0 rfl <| en <| blk <| sr <| la rfl <| la rfl <| en ?_
 refine cdh rfl h (fun c1 h => ?_) (fun c1 h => ?_)
 ·refine sr <| lf Fld_85_1 rfl rfl rfl <| lo T1_3 0 rfl ?_
  obtain ⟨x1, hx1, h⟩ := bs h
  refine lp (p_call Fun_41 rfl (fun w1 hw => m_s_l1In_ok hw.fro N p0.N (-1000000000) 1000000000 hx1)) rfl <| la rfl ?_
  obtain ⟨b1, hb_1, h⟩ := bs h
  refine WL.cutN 4 [(14, .bool b1), (2, .bool false)] ?_ (fun K => ?_)
  rotate_left
  ·refine spl 10 rfl hb_1 (fun c2 hb_1 => ?_) (fun c2 hb_1 => ?_)
   ·refine ly rfl rfl <| lf Fld_85_2 rfl rfl rfl <| ly rfl rfl <| lo T1_9 0 rfl <| ly rfl rfl <| la rfl <| la rfl ?_
    cases hb_1
    exact kk K ⟨rfl, rfl, trivial⟩
   ·refine la rfl <| la rfl <| la rfl <| la rfl ?_
    cases hb_1
    exact kk K ⟨rfl, rfl, trivial⟩
  refine la rfl <| en ?_
  refine WT.ret Tryz.func187 (resOk.one rfl) (fun w1 hw => ?_)
  cases h
  exact post_of_St hw
 refine sr <| la rfl <| la rfl <| en ?_
 refine cdh rfl h (fun c3 h => ?_) (fun c3 h => ?_)
 ·refine sr <| lf Fld_85_2 rfl rfl rfl <| lo T1_9 0 rfl ?_
  obtain ⟨x2, hx2, h⟩ := bs h
  refine lp (p_call Fun_206 rfl (fun w1 hw => m_s_l2Plain_ok hw.fro N p0.S hx2)) rfl <| la rfl ?_
  obtain ⟨b2, hb_2, h⟩ := bs h
  refine WL.cutN 4 [(24, .bool b2), (2, .bool false)] ?_ (fun K => ?_)
  rotate_left
  ·refine spl 20 rfl hb_2 (fun c4 hb_2 => ?_) (fun c4 hb_2 => ?_)
   ·refine ly rfl rfl <| lf Fld_85_1 rfl rfl rfl <| ly rfl rfl <| lo T1_3 0 rfl <| ly rfl rfl <| la rfl <| la rfl ?_
    cases hb_2
    exact kk K ⟨rfl, rfl, trivial⟩
   ·refine la rfl <| la rfl <| la rfl <| la rfl ?_
    cases hb_2
    exact kk K ⟨rfl, rfl, trivial⟩
  refine la rfl <| en ?_
  refine WT.ret Tryz.func187 (resOk.one rfl) (fun w1 hw => ?_)
  cases h
  exact post_of_St hw
 refine WT.skip <| ib <| sr <| la rfl <| en ?_
 refine WT.ret Tryz.func187 (resOk.one rfl) (fun w1 hw => ?_)
 cases h
 exact post_of_St hw
theorem m_s_l5Large_ok {Φ : Hp} {w : World} (hΦ : In Φ w) (N : Nat) (p0 : Int)   {r : Bool} (h : m_s_l5Large N p0 = some r) :
  Calls Tryz.prog 209 [.int .u8 p0].toArray w (Post (.bool r) w) := by
 refine enter Tryz.func209 rfl Tryz.ntmps209 rfl (St.start0 hΦ) ?_
 unfold m_s_l5Large at h
 refine sr <| la rfl <| en <| sr <| la rfl <| lq (q_convI Ik_5 Ik_3 rfl) rfl ?_
 obtain ⟨x1, hx1, h⟩ := bs h
 refine lp (p_call Fun_41 rfl (fun w1 hw => m_s_l1In_ok hw.fro N (IntKind.i64.wrap p0) 65 90 hx1)) rfl <| la rfl <| en ?_
 refine WT.ret Tryz.func209 (resOk.one rfl) (fun w1 hw => ?_)
 cases h
 exact post_of_St hw
theorem m_s_l5VarOk_ok {Φ : Hp} {w : World} (hΦ : In Φ w) (N : Nat) (p0 : ByteArray)   {r : Bool} (h : m_s_l5VarOk N p0 = some r) :
  Calls Tryz.prog 201 [.string p0].toArray w (Post (.bool r) w) := by
 refine enter Tryz.func201 rfl Tryz.ntmps201 rfl (St.start0 hΦ) ?_
 generalize hb0 : (⟨w, [], Φ⟩ : Base) = w0
 unfold m_s_l5VarOk at h
 refine sr <| la rfl <| en <| sq <| sr <| la rfl <| en <| blk ?_
 refine loop_in (σ := Int) (fun s => [(0, .string p0), (3, .int .i64 s)]) (fun s => St w0 Φ [] []) (fun m s => m_s_l5VarOk_l1 N p0 m s = some r) (0) N h ⟨rfl, rfl, trivial⟩ (fun w1 hw => (hw.sel (js := []) rfl).selO (js := []) rfl) (fun s hm => none_ne hm) (fun n1 ih1 s hm => ?_)
 revert hm; revert s; intro s1 hm
 have h : m_s_l5VarOk_l1 N p0 (n1 + 1) s1 = some r := hm
 show WT _ _ [(0, .string p0), (3, .int .i64 s1)] (St w0 Φ [] [])
 unfold m_s_l5VarOk_l1 at h
 refine sq <| sr <| la rfl <| la rfl <| lq (q_lenS Str_9 rfl rfl) rfl <| la rfl <| en ?_
 refine cdh rfl h (fun c1 h => ?_) (fun c1 h => ?_)
 ·refine WT.skip <| sq <| blk <| sr <| la rfl <| la rfl ?_
  obtain ⟨y1, hy1, h⟩ := bs h
  refine lq (q_indexS Str_9 rfl rfl hy1) rfl ?_
  obtain ⟨x1, hx1, h⟩ := bs h
  refine lp (p_call Fun_209 rfl (fun w1 hw => m_s_l5Large_ok hw.fro N (y1.toNat : Int) hx1)) rfl <| la rfl <| la rfl ?_
  obtain ⟨b1, hb_1, h⟩ := bs h
  refine WL.cutN 10 [(25, .bool b1), (0, .string p0), (3, .int .i64 s1)] ?_ (fun K => ?_)
  rotate_left
  ·refine spl 15 rfl hb_1 (fun c2 hb_1 => ?_) (fun c2 hb_1 => ?_)
   ·refine ly rfl rfl <| la rfl <| ly rfl rfl <| la rfl <| ly rfl rfl <| la rfl ?_
    obtain ⟨b2, hb_2, hb_1⟩ := bs hb_1
    refine WL.cutN 6 [(24, .bool b2), (0, .string p0), (3, .int .i64 s1), (15, .bool true)] ?_ (fun K => ?_)
    rotate_left
    ·refine spl 18 rfl hb_2 (fun c3 hb_2 => ?_) (fun c3 hb_2 => ?_)
     ·refine la rfl <| la rfl <| la rfl <| la rfl <| la rfl <| ly rfl rfl <| la rfl ?_
      cases hb_2
      exact kk K ⟨rfl, rfl, rfl, rfl, trivial⟩
     ·refine ly rfl rfl <| la rfl <| ly rfl rfl <| la rfl <| ly rfl rfl ?_
      obtain ⟨y2, hy2, hb_2⟩ := bs hb_2
      refine lq (q_indexS Str_9 rfl rfl hy2) rfl <| ly rfl rfl ?_
      obtain ⟨x2, hx2, hb_2⟩ := bs hb_2
      refine lp (p_call Fun_90 rfl (fun w1 hw => m_s_l1Letter_ok hw.fro N (y2.toNat : Int) hx2)) rfl <| ly rfl rfl <| la rfl <| ly rfl rfl <| la rfl ?_
      cases hb_2
      exact kk K ⟨rfl, rfl, rfl, rfl, trivial⟩
    refine la rfl ?_
    cases hb_1
    exact kk K ⟨rfl, rfl, rfl, trivial⟩
   ·refine la rfl <| la rfl <| la rfl <| WL.nox rfl rfl rfl rfl <| WL.nox rfl rfl rfl rfl <| WL.nox rfl rfl rfl rfl <| WL.nox rfl rfl rfl rfl <| WL.nox rfl rfl rfl rfl <| la rfl <| la rfl ?_
    cases hb_1
    exact kk K ⟨rfl, rfl, rfl, trivial⟩
  refine en ?_
  refine cdh rfl h (fun c4 h => ?_) (fun c4 h => ?_)
  ·refine sr <| la rfl <| en ?_
   refine WT.ret Tryz.func201 (resOk.one rfl) (fun w1 hw => ?_)
   subst hb0
   cases h
   exact post_of_St hw
  refine WT.skip <| ib <| rgn <| la rfl <| la rfl <| la rfl <| en ?_
  exact lback (ih1 (IntKind.i64.wrap (s1 + 1)) h) ⟨rfl, rfl, trivial⟩ (fun w1 hw => (hw.sel (js := []) rfl).selO (js := []) rfl)
 refine xt rfl <| sr <| la rfl <| lq (q_lenS Str_9 rfl rfl) rfl ?_
 obtain ⟨x3, hx3, h⟩ := bs h
 refine lp (p_call Fun_41 rfl (fun w1 hw => m_s_l1In_ok hw.fro N (p0.size : Int) 1 12 hx3)) rfl <| la rfl <| en ?_
 refine WT.ret Tryz.func201 (resOk.one rfl) (fun w1 hw => ?_)
 subst hb0
 cases h
 exact post_of_St hw
end Go.Proofs.YtelchcokfcdndaaGreat
