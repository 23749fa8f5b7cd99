/- Printed by a program of ours: each Go function computes its Lean function. -/
import Derived.Test.YtjhlmnbkfdkmpaaProg
import Derived.Test.YtjhlmnbkfdkmpaaWNetsWalk4
namespace Go.Proofs.Ytjhlmnbkfdkmpaa
open Eng
open Go.RowKit (Below)
set_option linter.unusedVariables false
set_option linter.unusedSimpArgs false

set_option maxRecDepth 100000
set_option maxHeartbeats 1000000
theorem m_l_FnNets_ok {Φ : Hp} {w : World} (hΦ : In Φ w) (N : Nat) (p0 : (List Int)) {pv0 : Value} {pG0 : List Nat} (ph0 : RSl (RI .u8) 1 Φ pG0 pv0 p0) {r : Bool} (h : m_l_FnNets N p0 = some r) :
    Calls Try.prog 11 [pv0].toArray w (Post (.bool r) w) := by
  refine enter Try.func11 rfl Try.ntmps11 rfl (St.start0 hΦ) ?_
  generalize hb0 : (⟨w, [], Φ⟩ : Base) = w0
  unfold m_l_FnNets at h
  refine WT.seq ?_
  refine WT.region ?_
  refine lq (q_assign rfl) rfl ?_
  refine WL.nil ?_
  refine WT.seq ?_
  refine WT.seq ?_
  refine WT.region ?_
  refine lq (q_move rfl) rfl ?_
  obtain ⟨x1, hx1, h⟩ := bind_some h
  refine lp (p_call Fun_38 rfl (fun w1 hw => m_l_big_ok hw.fro N p0 ph0 hx1)) rfl ?_
  refine WL.nil ?_
  refine WT.cond rfl (fun c1 => ?_) (fun c1 => ?_)
  · replace h := ite_t h c1
    refine WT.seq ?_
    refine WT.region ?_
    refine lq (q_assign rfl) rfl ?_
    refine WL.nil ?_
    refine WT.ret Try.func11 (resOk.one rfl) (fun w1 hw => ?_)
    subst hb0
    cases h
    exact post_of_St hw
  replace h := ite_f h c1
  refine WT.skip ?_
  refine WT.seq ?_
  refine WT.region ?_
  refine lq (q_move rfl) rfl ?_
  obtain ⟨x2, hx2, h⟩ := bind_some h
  refine lc (k_call (js := []) (R := []) Fun_59 rfl rfl (fun w1 hw ap hl => m_s_DrawNetOf_ok hw.fro N p0 ph0  hx2)) rfl (fun v1 Φ_1 F1 q1 => ?_)
  obtain ⟨ap1, fr1, v2, D1, X1, rfl, rfl, h1, i1⟩ := q1
  refine ln (n_alloc (C := #[.string (⟨#[]⟩ : ByteArray), .slice none 0 0]) Zr_29 rfl) rfl (fun b_1 => ?_)
  refine ls (s_store (i := 0) (vs := [.string x2.Name, v2]) (C' := [.string x2.Name, v2]) (O' := [(b_1, .cells #[.string x2.Name, v2] 29 (0, 0))]) Sz_29 rfl rfl rfl rfl rfl rfl ⟨rfl, h1.one, trivial⟩ rfl rfl) rfl ?_
  refine WL.nil ?_
  refine WT.seq ?_
  refine WT.region ?_
  refine lq (q_loadN Tn_29 rfl (fun w1 hw => hw.rgO (i := 0) rfl 0 2 [.string x2.Name, v2] rfl) rfl) rfl ?_
  obtain ⟨x4, hx3, h⟩ := bind_some h
  refine lc (k_call (js := []) (R := [ob v2, X1]) Fun_60 rfl rfl (fun w1 hw ap hl => m_i_NetOf_ok hw.fro N x2 h1.rsl  hx3)) rfl (fun v3 Φ_2 F2 q2 => ?_)
  obtain ⟨ap2, fr2, v4, D2, v5, D3, rfl, rfl, h2, h3⟩ := q2
  replace h1 := h1.frame RTRule.lasts fr2 (ap2.r (i := 0) rfl) (Dj.sub (ap2.r (i := 1) rfl) i1)
  refine ln (n_alloc (C := #[.slice none 0 0, .slice none 0 0]) Zr_46 rfl) rfl (fun b_2 => ?_)
  refine ls (s_store (i := 0) (vs := [v4, v5]) (C' := [v4, v5]) (O' := [(b_2, .cells #[v4, v5] 46 (0, 0)), (b_1, .cells #[.string x2.Name, v2] 29 (0, 0))]) Sz_46 rfl rfl rfl rfl rfl rfl ⟨h2.one, h3.one, trivial⟩ rfl rfl) rfl ?_
  refine WL.nil ?_
  refine WT.seq ?_
  refine WT.seq ?_
  refine WT.region ?_
  refine lq (q_loadN Tn_29 rfl (fun w1 hw => hw.rgO (i := 1) rfl 0 2 [.string x2.Name, v2] rfl) rfl) rfl ?_
  obtain ⟨x5, hx4, h⟩ := bind_some h
  refine lp (p_call Fun_61 rfl (fun w1 hw => m_s_DefOk_ok hw.fro N x2 h1.rsl hx4)) rfl ?_
  refine lq (q_not rfl) rfl ?_
  refine WL.nil ?_
  refine WT.cond rfl (fun c2 => ?_) (fun c2 => ?_)
  · replace h := ite_t h c2
    refine WT.seq ?_
    refine WT.region ?_
    refine lq (q_fieldAddr Fld_46_1 rfl) rfl ?_
    refine lq (q_load1 T1_44 rfl (fun w1 hw => hw.rgO (i := 0) rfl 1 1 [v5] rfl)) rfl ?_
    refine lq (q_lenR Sl_44 rfl rfl (h3.rslG OTChain.gives)) rfl ?_
    refine lq (q_eql rfl rfl) rfl ?_
    refine lq (q_move rfl) rfl ?_
    obtain ⟨b1, hb_1, h⟩ := bind_some h
    refine WL.cutN 5 [(29, .bool b1)] ?_ (fun K => ?_)
    rotate_left
    · refine WL.split (d := 24) rfl (fun c3 => ?_) (fun c3 => ?_)
      · replace hb_1 := ite_t hb_1 c3
        refine WL.yes rfl rfl ?_
        refine lq (q_loadN Tn_46 rfl (fun w1 hw => hw.rgO (i := 0) rfl 0 2 [v4, v5] rfl) rfl) rfl ?_
        refine WL.yes rfl rfl ?_
        refine lq (q_loadN Tn_29 rfl (fun w1 hw => hw.rgO (i := 1) rfl 0 2 [.string x2.Name, v2] rfl) rfl) rfl ?_
        refine WL.yes rfl rfl ?_
        obtain ⟨x6, hx5, hb_1⟩ := bind_some hb_1
        refine lp (p_call Fun_62 rfl (fun w1 hw => m_i_NetOk_ok hw.fro N x4 x2 (h2.rslG OTAlpha.gives) (h3.rslG OTChain.gives) h1.rsl hx5)) rfl ?_
        refine WL.yes rfl rfl ?_
        refine lq (q_not rfl) rfl ?_
        refine WL.q (q_pick1 rfl rfl) rfl rfl rfl ?_
        cases hb_1
        exact WL.keep (by exact ⟨rfl, trivial⟩) K
      · replace hb_1 := ite_f hb_1 c3
        refine WL.no rfl rfl rfl rfl ?_
        refine WL.no rfl rfl rfl rfl ?_
        refine WL.no rfl rfl rfl rfl ?_
        refine WL.no rfl rfl rfl rfl ?_
        refine WL.q (q_pick0 rfl rfl) rfl rfl rfl ?_
        cases hb_1
        exact WL.keep (by exact ⟨rfl, trivial⟩) K
    refine lq (q_assign rfl) rfl ?_
    refine WL.nil ?_
    refine WT.ret Try.func11 (resOk.one rfl) (fun w1 hw => ?_)
    subst hb0
    cases h
    exact post_of_St hw
  replace h := ite_f h c2
  refine WT.skip ?_
  refine WT.seq ?_
  refine WT.seq ?_
  refine WT.region ?_
  refine lq (q_fieldAddr Fld_46_1 rfl) rfl ?_
  refine lq (q_load1 T1_44 rfl (fun w1 hw => hw.rgO (i := 0) rfl 1 1 [v5] rfl)) rfl ?_
  refine lq (q_lenR Sl_44 rfl rfl (h3.rslG OTChain.gives)) rfl ?_
  refine lq (q_fieldAddr Fld_29_1 rfl) rfl ?_
  refine lq (q_load1 T1_27 rfl (fun w1 hw => hw.rgO (i := 1) rfl 1 1 [v2] rfl)) rfl ?_
  refine lq (q_lenR Sl_27 rfl rfl h1.rsl) rfl ?_
  refine lq (q_neq rfl rfl) rfl ?_
  refine lq (q_move rfl) rfl ?_
  obtain ⟨b2, hb_2, h⟩ := bind_some h
  refine WL.cutN 5 [(42, .bool b2), (3, .pointer (some ⟨b_1, 0, none⟩)), (4, .pointer (some ⟨b_2, 0, none⟩))] ?_ (fun K => ?_)
  rotate_left
  · refine WL.split (d := 37) rfl (fun c4 => ?_) (fun c4 => ?_)
    · replace hb_2 := ite_t hb_2 c4
      refine WL.no rfl rfl rfl rfl ?_
      refine WL.no rfl rfl rfl rfl ?_
      refine WL.no rfl rfl rfl rfl ?_
      refine WL.no rfl rfl rfl rfl ?_
      refine WL.q (q_pick1 rfl rfl) rfl rfl rfl ?_
      cases hb_2
      exact WL.keep (by exact ⟨rfl, rfl, rfl, trivial⟩) K
    · replace hb_2 := ite_f hb_2 c4
      refine WL.yes rfl rfl ?_
      refine lq (q_loadN Tn_46 rfl (fun w1 hw => hw.rgO (i := 0) rfl 0 2 [v4, v5] rfl) rfl) rfl ?_
      refine WL.yes rfl rfl ?_
      refine lq (q_loadN Tn_29 rfl (fun w1 hw => hw.rgO (i := 1) rfl 0 2 [.string x2.Name, v2] rfl) rfl) rfl ?_
      refine WL.yes rfl rfl ?_
      obtain ⟨x7, hx6, hb_2⟩ := bind_some hb_2
      refine lp (p_call Fun_62 rfl (fun w1 hw => m_i_NetOk_ok hw.fro N x4 x2 (h2.rslG OTAlpha.gives) (h3.rslG OTChain.gives) h1.rsl hx6)) rfl ?_
      refine WL.yes rfl rfl ?_
      refine lq (q_not rfl) rfl ?_
      refine WL.q (q_pick0 rfl rfl) rfl rfl rfl ?_
      cases hb_2
      exact WL.keep (by exact ⟨rfl, rfl, rfl, trivial⟩) K
  refine WL.nil ?_
  refine WT.cond rfl (fun c5 => ?_) (fun c5 => ?_)
  · replace h := ite_t h c5
    refine WT.seq ?_
    refine WT.region ?_
    refine lq (q_assign rfl) rfl ?_
    refine WL.nil ?_
    refine WT.ret Try.func11 (resOk.one rfl) (fun w1 hw => ?_)
    subst hb0
    cases h
    exact post_of_St hw
  replace h := ite_f h c5
  refine WT.skip ?_
  refine WT.seq ?_
  refine WT.seq ?_
  refine WT.region ?_
  refine lq (q_assign rfl) rfl ?_
  refine WL.nil ?_
  refine WT.block ?_
  refine WT.loop ?_
  refine WT.mono (l' := [(3, .pointer (some ⟨b_1, 0, none⟩)), (4, .pointer (some ⟨b_2, 0, none⟩)), (5, .int .i64 0)]) (S' := St w0 Φ_2 [(b_2, .cells #[v4, v5] 46 (0, 0)), (b_1, .cells #[.string x2.Name, v2] 29 (0, 0))] [ob v4, D2, ob v5, D3, ob v2, X1]) ⟨rfl, rfl, rfl, trivial⟩ (fun w1 hw => (hw.sel (js := [0, 0, 0, 0, 0, 0]) rfl).selO (js := [0, 0]) rfl) ?_
  refine loop_ind (σ := Int) (fun s => [(3, .pointer (some ⟨b_1, 0, none⟩)), (4, .pointer (some ⟨b_2, 0, none⟩)), (5, .int .i64 s)]) (fun s => St w0 Φ_2 [(b_2, .cells #[v4, v5] 46 (0, 0)), (b_1, .cells #[.string x2.Name, v2] 29 (0, 0))] [ob v4, D2, ob v5, D3, ob v2, X1]) (fun m s => m_l_FnNets_l1 N x2 x4 m s = some r) (fun s hm => none_ne (show (none : Option (Bool)) = some r from hm)) (fun n1 ih1 s hm => ?_) N (0) h
  revert hm; revert s; intro s1 hm
  have h : m_l_FnNets_l1 N x2 x4 (n1 + 1) s1 = some r := hm
  show WT _ _ [(3, .pointer (some ⟨b_1, 0, none⟩)), (4, .pointer (some ⟨b_2, 0, none⟩)), (5, .int .i64 s1)] (St w0 Φ_2 [(b_2, .cells #[v4, v5] 46 (0, 0)), (b_1, .cells #[.string x2.Name, v2] 29 (0, 0))] [ob v4, D2, ob v5, D3, ob v2, X1])
  unfold m_l_FnNets_l1 at h
  refine WT.seq ?_
  refine WT.seq ?_
  refine WT.region ?_
  refine lq (q_move rfl) rfl ?_
  refine lq (q_fieldAddr Fld_46_0 rfl) rfl ?_
  refine lq (q_load1 T1_43 rfl (fun w1 hw => hw.rgO (i := 0) rfl 0 1 [v4] rfl)) rfl ?_
  refine lq (q_lenR Sl_43 rfl rfl (h2.rslG OTAlpha.gives)) rfl ?_
  refine lq (q_lss rfl rfl) rfl ?_
  refine WL.nil ?_
  refine WT.cond rfl (fun c6 => ?_) (fun c6 => ?_)
  · replace h := ite_t h c6
    refine WT.skip ?_
    refine WT.seq ?_
    refine WT.block ?_
    refine WT.seq ?_
    refine WT.region ?_
    refine lq (q_assign rfl) rfl ?_
    refine WL.nil ?_
    refine WT.block ?_
    refine WT.loop ?_
    refine WT.mono (l' := [(3, .pointer (some ⟨b_1, 0, none⟩)), (4, .pointer (some ⟨b_2, 0, none⟩)), (5, .int .i64 s1), (6, .int .i64 0)]) (S' := St w0 Φ_2 [(b_2, .cells #[v4, v5] 46 (0, 0)), (b_1, .cells #[.string x2.Name, v2] 29 (0, 0))] [ob v4, D2, ob v5, D3, ob v2, X1]) ⟨rfl, rfl, rfl, rfl, trivial⟩ (fun w1 hw => (hw.sel (js := [0, 0, 0, 0, 0, 0]) rfl).selO (js := [0, 0]) rfl) ?_
    refine loop_ind (σ := Int) (fun s => [(3, .pointer (some ⟨b_1, 0, none⟩)), (4, .pointer (some ⟨b_2, 0, none⟩)), (5, .int .i64 s1), (6, .int .i64 s)]) (fun s => St w0 Φ_2 [(b_2, .cells #[v4, v5] 46 (0, 0)), (b_1, .cells #[.string x2.Name, v2] 29 (0, 0))] [ob v4, D2, ob v5, D3, ob v2, X1]) (fun m s => m_l_FnNets_l2 N x4 s1 (m_l_FnNets_l1 N x2 x4 n1) m s = some r) (fun s hm => none_ne (show (none : Option (Bool)) = some r from hm)) (fun n2 ih2 s hm => ?_) N (0) h
    revert hm; revert s; intro s2 hm
    have h : m_l_FnNets_l2 N x4 s1 (m_l_FnNets_l1 N x2 x4 n1) (n2 + 1) s2 = some r := hm
    show WT _ _ [(3, .pointer (some ⟨b_1, 0, none⟩)), (4, .pointer (some ⟨b_2, 0, none⟩)), (5, .int .i64 s1), (6, .int .i64 s2)] (St w0 Φ_2 [(b_2, .cells #[v4, v5] 46 (0, 0)), (b_1, .cells #[.string x2.Name, v2] 29 (0, 0))] [ob v4, D2, ob v5, D3, ob v2, X1])
    unfold m_l_FnNets_l2 at h
    refine WT.seq ?_
    refine WT.seq ?_
    refine WT.region ?_
    refine lq (q_move rfl) rfl ?_
    refine lq (q_move rfl) rfl ?_
    refine lq (q_lss rfl rfl) rfl ?_
    refine WL.nil ?_
    refine WT.cond rfl (fun c7 => ?_) (fun c7 => ?_)
    · replace h := ite_t h c7
      refine WT.skip ?_
      refine WT.seq ?_
      refine WT.block ?_
      refine WT.seq ?_
      refine WT.draw mixed (by kernel_rfl) (fun _ h => h.drew) ?_
      refine qq (q_fieldAddr Fld_46_0 rfl) rfl ?_
      refine qq (q_load1 T1_43 rfl (fun w1 hw => hw.rgO (i := 0) rfl 0 1 [v4] rfl)) rfl ?_
      refine qq (q_move rfl) rfl ?_
      obtain ⟨x8, hx7, h⟩ := bind_some h
      obtain ⟨cs1, F3, -, g1, hb1, hs1, r1⟩ := h2.elS (idx_some hx7).2.2
      obtain ⟨v6, v7, rfl, rfl, h4, h5⟩ := r1
      have h6 := h4.rsl
      have h7 := h5.rsl
      refine qq (q_indexAddr Sl_43 rfl rfl h2.rsl hx7) rfl ?_
      refine qq (q_loadN Tn_114 rfl (fun w1 hw => (g1.of_eq 0 4 rfl rfl : rg _ _ _ [.string x8.Kind, .int .i64 x8.N, v6, v7]).rangeAt hw.fro) rfl) rfl ?_
      refine qq (q_fieldAddr Fld_46_0 rfl) rfl ?_
      refine qq (q_load1 T1_43 rfl (fun w1 hw => hw.rgO (i := 0) rfl 0 1 [v4] rfl)) rfl ?_
      refine qq (q_move rfl) rfl ?_
      obtain ⟨x9, hx8, h⟩ := bind_some h
      obtain ⟨cs2, F4, -, g2, hb2, hs2, r2⟩ := h2.elS (idx_some hx8).2.2
      obtain ⟨v8, v9, rfl, rfl, h8, h9⟩ := r2
      have h10 := h8.rsl
      have h11 := h9.rsl
      refine qq (q_indexAddr Sl_43 rfl rfl h2.rsl hx8) rfl ?_
      refine qq (q_loadN Tn_114 rfl (fun w1 hw => (g2.of_eq 0 4 rfl rfl : rg _ _ _ [.string x9.Kind, .int .i64 x9.N, v8, v9]).rangeAt hw.fro) rfl) rfl ?_
      obtain ⟨x10, hx9, h⟩ := bind_some h
      refine qp (p_call Fun_63 rfl (fun w1 hw => m_i_SameAlpha_ok hw.fro N x8 x9 h6 h7 h10 h11 hx9)) rfl ?_
      refine WQ.nil ?_
      refine WT.cond rfl (fun c8 => ?_) (fun c8 => ?_)
      · replace h := ite_t h c8
        refine WT.seq ?_
        refine WT.region ?_
        refine lq (q_assign rfl) rfl ?_
        refine WL.nil ?_
        refine WT.ret Try.func11 (resOk.one rfl) (fun w1 hw => ?_)
        subst hb0
        cases h
        exact post_of_St hw
      replace h := ite_f h c8
      refine WT.skip ?_
      refine WT.inBlock ?_
      refine WT.region ?_
      refine lq (q_move rfl) rfl ?_
      refine lq (q_add rfl rfl) rfl ?_
      refine lq (q_assign rfl) rfl ?_
      refine WL.nil ?_
      refine WT.inLoop (WT.mono (l' := [(3, .pointer (some ⟨b_1, 0, none⟩)), (4, .pointer (some ⟨b_2, 0, none⟩)), (5, .int .i64 s1), (6, .int .i64 (IntKind.i64.wrap (s2 + 1)))]) (S' := St w0 Φ_2 [(b_2, .cells #[v4, v5] 46 (0, 0)), (b_1, .cells #[.string x2.Name, v2] 29 (0, 0))] [ob v4, D2, ob v5, D3, ob v2, X1]) ⟨rfl, rfl, rfl, rfl, trivial⟩ (fun w1 hw => (hw.sel (js := [0, 0, 0, 0, 0, 0]) rfl).selO (js := [0, 0]) rfl) ?_)
      exact ih2 (IntKind.i64.wrap (s2 + 1)) h
    replace h := ite_f h c7
    refine WT.exit rfl ?_
    refine WT.inBlock ?_
    refine WT.region ?_
    refine lq (q_move rfl) rfl ?_
    refine lq (q_add rfl rfl) rfl ?_
    refine lq (q_assign rfl) rfl ?_
    refine WL.nil ?_
    refine WT.inLoop (WT.mono (l' := [(3, .pointer (some ⟨b_1, 0, none⟩)), (4, .pointer (some ⟨b_2, 0, none⟩)), (5, .int .i64 (IntKind.i64.wrap (s1 + 1)))]) (S' := St w0 Φ_2 [(b_2, .cells #[v4, v5] 46 (0, 0)), (b_1, .cells #[.string x2.Name, v2] 29 (0, 0))] [ob v4, D2, ob v5, D3, ob v2, X1]) ⟨rfl, rfl, rfl, trivial⟩ (fun w1 hw => (hw.sel (js := [0, 0, 0, 0, 0, 0]) rfl).selO (js := [0, 0]) rfl) ?_)
    exact ih1 (IntKind.i64.wrap (s1 + 1)) h
  replace h := ite_f h c6
  refine WT.exit rfl ?_
  refine WT.seq ?_
  refine WT.seq ?_
  refine WT.region ?_
  refine lq (q_assign rfl) rfl ?_
  refine WL.nil ?_
  refine WT.block ?_
  refine WT.loop ?_
  refine WT.mono (l' := [(3, .pointer (some ⟨b_1, 0, none⟩)), (4, .pointer (some ⟨b_2, 0, none⟩)), (7, .int .i64 0)]) (S' := St w0 Φ_2 [(b_2, .cells #[v4, v5] 46 (0, 0)), (b_1, .cells #[.string x2.Name, v2] 29 (0, 0))] [ob v4, D2, ob v5, D3, ob v2, X1]) ⟨rfl, rfl, rfl, trivial⟩ (fun w1 hw => (hw.sel (js := [0, 0, 0, 0, 0, 0]) rfl).selO (js := [0, 0]) rfl) ?_
  refine loop_ind (σ := Hp × Int) (fun s => [(3, .pointer (some ⟨b_1, 0, none⟩)), (4, .pointer (some ⟨b_2, 0, none⟩)), (7, .int .i64 s.2)]) (fun s => St w0 s.1 [(b_2, .cells #[v4, v5] 46 (0, 0)), (b_1, .cells #[.string x2.Name, v2] 29 (0, 0))] [ob v4, D2, ob v5, D3, ob v2, X1]) (fun m s => m_l_FnNets_l3 N x2 x4 m s.2 = some r ∧ (OSl RTRule 66 5 s.1 D1 v2 x2.Rules) ∧ (OSl OTAlpha 114 4 s.1 D2 v4 x4.Alphas) ∧ (OSl OTChain 116 2 s.1 D3 v5 x4.Chains)) (fun s hm => none_ne (show (none : Option (Bool)) = some r from hm.1)) (fun n3 ih3 s hm => ?_) N (Φ_2, 0) ⟨h, h1, h2, h3⟩
  obtain ⟨Φ_3, s3⟩ := s
  obtain ⟨h, h1, h2, h3⟩ := hm
  replace h : m_l_FnNets_l3 N x2 x4 (n3 + 1) s3 = some r := h
  replace h1 : OSl RTRule 66 5 Φ_3 D1 v2 x2.Rules := h1
  replace h2 : OSl OTAlpha 114 4 Φ_3 D2 v4 x4.Alphas := h2
  replace h3 : OSl OTChain 116 2 Φ_3 D3 v5 x4.Chains := h3
  show WT _ _ [(3, .pointer (some ⟨b_1, 0, none⟩)), (4, .pointer (some ⟨b_2, 0, none⟩)), (7, .int .i64 s3)] (St w0 Φ_3 [(b_2, .cells #[v4, v5] 46 (0, 0)), (b_1, .cells #[.string x2.Name, v2] 29 (0, 0))] [ob v4, D2, ob v5, D3, ob v2, X1])
  unfold m_l_FnNets_l3 at h
  refine WT.seq ?_
  refine WT.seq ?_
  refine WT.region ?_
  refine lq (q_move rfl) rfl ?_
  refine lq (q_fieldAddr Fld_29_1 rfl) rfl ?_
  refine lq (q_load1 T1_27 rfl (fun w1 hw => hw.rgO (i := 1) rfl 1 1 [v2] rfl)) rfl ?_
  refine lq (q_lenR Sl_27 rfl rfl h1.rsl) rfl ?_
  refine lq (q_lss rfl rfl) rfl ?_
  refine WL.nil ?_
  refine WT.cond rfl (fun c9 => ?_) (fun c9 => ?_)
  · replace h := ite_t h c9
    refine WT.skip ?_
    refine WT.seq ?_
    refine WT.block ?_
    refine WT.seq ?_
    refine WT.region ?_
    refine lq (q_fieldAddr Fld_46_1 rfl) rfl ?_
    refine lq (q_load1 T1_44 rfl (fun w1 hw => hw.rgO (i := 0) rfl 1 1 [v5] rfl)) rfl ?_
    refine lq (q_move rfl) rfl ?_
    obtain ⟨x11, hx10, h⟩ := bind_some h
    obtain ⟨cs3, F5, -, g3, hb3, hs3, r3⟩ := h3.elS (idx_some hx10).2.2
    obtain ⟨v10, v11, rfl, rfl, h12, h13⟩ := r3
    have h14 := h12.rsl
    have h15 := h13.rsl
    refine lq (q_indexAddr Sl_44 rfl rfl h3.rsl hx10) rfl ?_
    refine lq (q_loadN Tn_116 rfl (fun w1 hw => (g3.of_eq 0 2 rfl rfl : rg _ _ _ [v10, v11]).rangeAt hw.fro) rfl) rfl ?_
    refine ln (n_alloc (C := #[.slice none 0 0, .slice none 0 0]) Zr_116 rfl) rfl (fun b_3 => ?_)
    refine ls (s_store (i := 0) (vs := [v10, v11]) (C' := [v10, v11]) (O' := [(b_3, .cells #[v10, v11] 116 (0, 0)), (b_2, .cells #[v4, v5] 46 (0, 0)), (b_1, .cells #[.string x2.Name, v2] 29 (0, 0))]) Sz_116 rfl rfl rfl rfl rfl rfl ⟨h14.one, h15.one, trivial⟩ rfl rfl) rfl ?_
    refine WL.nil ?_
    refine WT.seq ?_
    refine WT.region ?_
    refine lq (q_fieldAddr Fld_29_1 rfl) rfl ?_
    refine lq (q_load1 T1_27 rfl (fun w1 hw => hw.rgO (i := 2) rfl 1 1 [v2] rfl)) rfl ?_
    refine lq (q_move rfl) rfl ?_
    obtain ⟨x12, hx11, h⟩ := bind_some h
    obtain ⟨cs4, F6, -, g4, hb4, hs4, r4⟩ := h1.elS (idx_some hx11).2.2
    obtain ⟨v12, G1, v13, G2, v14, G3, rfl, rfl, h16, h17, h18⟩ := r4
    refine lq (q_indexAddr Sl_27 rfl rfl h1.rsl hx11) rfl ?_
    refine lq (q_loadN Tn_66 rfl (fun w1 hw => (g4.of_eq 0 5 rfl rfl : rg _ _ _ [.string x12.Name, .int .i64 x12.Sal, v12, v13, v14]).rangeAt hw.fro) rfl) rfl ?_
    obtain ⟨x13, hx12, h⟩ := bind_some h
    refine lp (p_call Fun_64 rfl (fun w1 hw => m_i_PosCount_ok hw.fro N x12 h16 h17 h18 hx12)) rfl ?_
    refine lq (q_assign rfl) rfl ?_
    refine WL.nil ?_
    refine WT.seq ?_
    refine WT.seq ?_
    refine WT.draw mixed (by kernel_rfl) (fun _ h => h.drew) ?_
    refine qq (q_fieldAddr Fld_116_0 rfl) rfl ?_
    refine qq (q_load1 T1_78 rfl (fun w1 hw => hw.rgO (i := 0) rfl 0 1 [v10] rfl)) rfl ?_
    refine qq (q_lenR Sl_78 rfl rfl h14) rfl ?_
    refine qq (q_move rfl) rfl ?_
    refine qq (q_neq rfl rfl) rfl ?_
    refine qq (q_move rfl) rfl ?_
    obtain ⟨b3, hb_3, h⟩ := bind_some h
    refine WQ.cutN 16 [(105, .bool b3), (3, .pointer (some ⟨b_1, 0, none⟩)), (4, .pointer (some ⟨b_2, 0, none⟩)), (7, .int .i64 s3), (8, .pointer (some ⟨b_3, 0, none⟩)), (9, .int .i64 x13)] ?_ (fun K => ?_)
    rotate_left
    · refine WQ.split (d := 89) rfl (fun c10 => ?_) (fun c10 => ?_)
      · replace hb_3 := ite_t hb_3 c10
        refine WQ.no rfl rfl rfl rfl ?_
        refine WQ.no rfl rfl rfl rfl ?_
        refine WQ.no rfl rfl rfl rfl ?_
        refine WQ.no rfl rfl rfl rfl ?_
        refine WQ.no rfl rfl rfl rfl ?_
        refine WQ.no rfl rfl rfl rfl ?_
        refine WQ.no rfl rfl rfl rfl ?_
        refine WQ.no rfl rfl rfl rfl ?_
        refine WQ.no rfl rfl rfl rfl ?_
        refine WQ.no rfl rfl rfl rfl ?_
        refine WQ.no rfl rfl rfl rfl ?_
        refine WQ.no rfl rfl rfl rfl ?_
        refine WQ.no rfl rfl rfl rfl ?_
        refine WQ.no rfl rfl rfl rfl ?_
        refine WQ.no rfl rfl rfl rfl ?_
        refine WQ.q (q_pick1 rfl rfl) rfl rfl rfl ?_
        cases hb_3
        exact WQ.keep (by exact ⟨rfl, rfl, rfl, rfl, rfl, rfl, trivial⟩) K
      · replace hb_3 := ite_f hb_3 c10
        refine WQ.yes rfl rfl ?_
        refine qq (q_fieldAddr Fld_116_0 rfl) rfl ?_
        refine WQ.yes rfl rfl ?_
        refine qq (q_load1 T1_78 rfl (fun w1 hw => hw.rgO (i := 0) rfl 0 1 [v10] rfl)) rfl ?_
        refine WQ.yes rfl rfl ?_
        refine qq (q_lenR Sl_78 rfl rfl h14) rfl ?_
        refine WQ.yes rfl rfl ?_
        refine qq (q_fieldAddr Fld_116_1 rfl) rfl ?_
        refine WQ.yes rfl rfl ?_
        refine qq (q_load1 T1_78 rfl (fun w1 hw => hw.rgO (i := 0) rfl 1 1 [v11] rfl)) rfl ?_
        refine WQ.yes rfl rfl ?_
        refine qq (q_lenR Sl_78 rfl rfl h15) rfl ?_
        refine WQ.yes rfl rfl ?_
        refine qq (q_add rfl rfl) rfl ?_
        refine WQ.yes rfl rfl ?_
        refine qq (q_fieldAddr Fld_29_1 rfl) rfl ?_
        refine WQ.yes rfl rfl ?_
        refine qq (q_load1 T1_27 rfl (fun w1 hw => hw.rgO (i := 2) rfl 1 1 [v2] rfl)) rfl ?_
        refine WQ.yes rfl rfl ?_
        refine qq (q_move rfl) rfl ?_
        refine WQ.yes rfl rfl ?_
        obtain ⟨x14, hx13, hb_3⟩ := bind_some hb_3
        obtain ⟨cs5, F7, -, g5, hb5, hs5, r5⟩ := h1.elS (idx_some hx13).2.2
        obtain ⟨v15, G4, v16, G5, v17, G6, rfl, rfl, h19, h20, h21⟩ := r5
        refine qq (q_indexAddr Sl_27 rfl rfl h1.rsl hx13) rfl ?_
        refine WQ.yes rfl rfl ?_
        refine qq (q_fieldAddr Fld_66_2 rfl) rfl ?_
        refine WQ.yes rfl rfl ?_
        refine qq (q_load1 T1_62 rfl (fun w1 hw => (g5.of_eq 2 1 rfl rfl : rg _ _ _ [v15]).rangeAt hw.fro)) rfl ?_
        refine WQ.yes rfl rfl ?_
        refine qq (q_lenR Sl_62 rfl rfl h19) rfl ?_
        refine WQ.yes rfl rfl ?_
        refine qq (q_neq rfl rfl) rfl ?_
        refine WQ.q (q_pick0 rfl rfl) rfl rfl rfl ?_
        cases hb_3
        exact WQ.keep (by exact ⟨rfl, rfl, rfl, rfl, rfl, rfl, trivial⟩) K
    refine WQ.nil ?_
    refine WT.cond rfl (fun c11 => ?_) (fun c11 => ?_)
    · replace h := ite_t h c11
      refine WT.seq ?_
      refine WT.region ?_
      refine lq (q_assign rfl) rfl ?_
      refine WL.nil ?_
      refine WT.ret Try.func11 (resOk.one rfl) (fun w1 hw => ?_)
      subst hb0
      cases h
      exact post_of_St hw
    replace h := ite_f h c11
    refine WT.skip ?_
    refine WT.seq ?_
    refine WT.region ?_
    refine lq (q_assign rfl) rfl ?_
    refine WL.nil ?_
    refine WT.block ?_
    refine WT.loop ?_
    refine WT.mono (l' := [(3, .pointer (some ⟨b_1, 0, none⟩)), (4, .pointer (some ⟨b_2, 0, none⟩)), (7, .int .i64 s3), (8, .pointer (some ⟨b_3, 0, none⟩)), (9, .int .i64 x13), (10, .int .i64 0)]) (S' := St w0 Φ_3 [(b_3, .cells #[v10, v11] 116 (0, 0)), (b_2, .cells #[v4, v5] 46 (0, 0)), (b_1, .cells #[.string x2.Name, v2] 29 (0, 0))] [ob v4, D2, ob v5, D3, ob v2, X1]) ⟨rfl, rfl, rfl, rfl, rfl, rfl, trivial⟩ (fun w1 hw => (hw.sel (js := [0, 0, 0, 0, 0, 0]) rfl).selO (js := [0, 0, 0]) rfl) ?_
    refine loop_ind (σ := Hp × Int) (fun s => [(3, .pointer (some ⟨b_1, 0, none⟩)), (4, .pointer (some ⟨b_2, 0, none⟩)), (7, .int .i64 s3), (8, .pointer (some ⟨b_3, 0, none⟩)), (9, .int .i64 x13), (10, .int .i64 s.2)]) (fun s => St w0 s.1 [(b_3, .cells #[v10, v11] 116 (0, 0)), (b_2, .cells #[v4, v5] 46 (0, 0)), (b_1, .cells #[.string x2.Name, v2] 29 (0, 0))] [ob v4, D2, ob v5, D3, ob v2, X1]) (fun m s => m_l_FnNets_l4 N x2 x4 s3 (m_l_FnNets_l3 N x2 x4 n3) x11 x13 m s.2 = some r ∧ (OSl RTRule 66 5 s.1 D1 v2 x2.Rules) ∧ (OSl OTAlpha 114 4 s.1 D2 v4 x4.Alphas) ∧ (OSl OTChain 116 2 s.1 D3 v5 x4.Chains) ∧ (RSl (RI .i64) 1 s.1 (ob v10 ++ []) v10 x11.Pos) ∧ (RSl (RI .i64) 1 s.1 (ob v11 ++ []) v11 x11.Neg)) (fun s hm => none_ne (show (none : Option (Bool)) = some r from hm.1)) (fun n4 ih4 s hm => ?_) N (Φ_3, 0) ⟨h, h1, h2, h3, h14, h15⟩
    obtain ⟨Φ_4, s4⟩ := s
    obtain ⟨h, h1, h2, h3, h14, h15⟩ := hm
    replace h : m_l_FnNets_l4 N x2 x4 s3 (m_l_FnNets_l3 N x2 x4 n3) x11 x13 (n4 + 1) s4 = some r := h
    replace h1 : OSl RTRule 66 5 Φ_4 D1 v2 x2.Rules := h1
    replace h2 : OSl OTAlpha 114 4 Φ_4 D2 v4 x4.Alphas := h2
    replace h3 : OSl OTChain 116 2 Φ_4 D3 v5 x4.Chains := h3
    replace h14 : RSl (RI .i64) 1 Φ_4 (ob v10 ++ []) v10 x11.Pos := h14
    replace h15 : RSl (RI .i64) 1 Φ_4 (ob v11 ++ []) v11 x11.Neg := h15
    show WT _ _ [(3, .pointer (some ⟨b_1, 0, none⟩)), (4, .pointer (some ⟨b_2, 0, none⟩)), (7, .int .i64 s3), (8, .pointer (some ⟨b_3, 0, none⟩)), (9, .int .i64 x13), (10, .int .i64 s4)] (St w0 Φ_4 [(b_3, .cells #[v10, v11] 116 (0, 0)), (b_2, .cells #[v4, v5] 46 (0, 0)), (b_1, .cells #[.string x2.Name, v2] 29 (0, 0))] [ob v4, D2, ob v5, D3, ob v2, X1])
    unfold m_l_FnNets_l4 at h
    refine WT.seq ?_
    refine WT.seq ?_
    refine WT.region ?_
    refine lq (q_move rfl) rfl ?_
    refine lq (q_move rfl) rfl ?_
    refine lq (q_lss rfl rfl) rfl ?_
    refine WL.nil ?_
    refine WT.cond rfl (fun c12 => ?_) (fun c12 => ?_)
    · replace h := ite_t h c12
      refine WT.skip ?_
      refine WT.seq ?_
      refine WT.block ?_
      refine WT.seq ?_
      refine WT.mix (Kn Φ_4 (D3 ++ (ob v4 ++ (ob v2 ++ X1))) [(b_3, .cells #[v10, v11] 116 (0, 0)), (b_2, .cells #[v4, v5] 46 (0, 0)), (b_1, .cells #[.string x2.Name, v2] 29 (0, 0))]) (fun _ => true) mixed (fun _ h => h.drew) ?_
      refine mq 0 rfl (by kernel_rfl) (fun w1 hw => Kn.of (fun _ _ _ h => h) (AllIn.mem ⟨List.mem_of_getElem? (i := 0) rfl, List.mem_of_getElem? (i := 1) rfl, List.mem_of_getElem? (i := 2) rfl, trivial⟩) hw) (q_fieldAddr Fld_46_0 rfl) rfl ?_
      refine mq 1 rfl (by kernel_rfl) (fun w1 hw => Kn.of (fun _ _ _ h => h) (AllIn.mem ⟨List.mem_of_getElem? (i := 0) rfl, List.mem_of_getElem? (i := 1) rfl, List.mem_of_getElem? (i := 2) rfl, trivial⟩) hw) (q_load1 T1_43 rfl (fun w1 hw => hw.rgO (i := 1) rfl 0 1 [v4] rfl)) rfl ?_
      refine mq 2 rfl (by kernel_rfl) (fun w1 hw => Kn.of (fun _ _ _ h => h) (AllIn.mem ⟨List.mem_of_getElem? (i := 0) rfl, List.mem_of_getElem? (i := 1) rfl, List.mem_of_getElem? (i := 2) rfl, trivial⟩) hw) (q_fieldAddr Fld_116_0 rfl) rfl ?_
      refine mq 3 rfl (by kernel_rfl) (fun w1 hw => Kn.of (fun _ _ _ h => h) (AllIn.mem ⟨List.mem_of_getElem? (i := 0) rfl, List.mem_of_getElem? (i := 1) rfl, List.mem_of_getElem? (i := 2) rfl, trivial⟩) hw) (q_load1 T1_78 rfl (fun w1 hw => hw.rgO (i := 0) rfl 0 1 [v10] rfl)) rfl ?_
      refine mq 4 rfl (by kernel_rfl) (fun w1 hw => Kn.of (fun _ _ _ h => h) (AllIn.mem ⟨List.mem_of_getElem? (i := 0) rfl, List.mem_of_getElem? (i := 1) rfl, List.mem_of_getElem? (i := 2) rfl, trivial⟩) hw) (q_move rfl) rfl ?_
      obtain ⟨x15, hx14, h⟩ := bind_some h
      obtain ⟨cs6, F8, -, g6, hb6, hs6, r6⟩ := h14.el (idx_some hx14).2.2
      obtain ⟨rfl, -⟩ := r6
      refine mq 5 rfl (by kernel_rfl) (fun w1 hw => Kn.of (fun _ _ _ h => h) (AllIn.mem ⟨List.mem_of_getElem? (i := 0) rfl, List.mem_of_getElem? (i := 1) rfl, List.mem_of_getElem? (i := 2) rfl, trivial⟩) hw) (q_indexAddr Sl_78 rfl rfl h14 hx14) rfl ?_
      refine mq 6 rfl (by kernel_rfl) (fun w1 hw => Kn.of (fun _ _ _ h => h) (AllIn.mem ⟨List.mem_of_getElem? (i := 0) rfl, List.mem_of_getElem? (i := 1) rfl, List.mem_of_getElem? (i := 2) rfl, trivial⟩) hw) (q_load1 T1_3 rfl (fun w1 hw => hw.rg (List.mem_append.2 (.inl ((fun k h => hs3 k (List.mem_append.2 (.inl h))) _ hb6))) (g6.of_eq 0 1 rfl rfl : rg _ _ _ [.int .i64 x15]))) rfl ?_
      obtain ⟨x16, hx15, h⟩ := bind_some h
      obtain ⟨cs7, F9, -, g7, hb7, hs7, r7⟩ := h2.elS (idx_some hx15).2.2
      obtain ⟨v18, v19, rfl, rfl, h22, h23⟩ := r7
      have h24 := h22.rsl
      have h25 := h23.rsl
      refine mq 7 rfl (by kernel_rfl) (fun w1 hw => Kn.of (fun _ _ _ h => h) (AllIn.mem ⟨List.mem_of_getElem? (i := 0) rfl, List.mem_of_getElem? (i := 1) rfl, List.mem_of_getElem? (i := 2) rfl, trivial⟩) hw) (q_indexAddr Sl_43 rfl rfl h2.rsl hx15) rfl ?_
      refine mq 8 rfl (by kernel_rfl) (fun w1 hw => Kn.of (fun _ _ _ h => h) (AllIn.mem ⟨List.mem_of_getElem? (i := 0) rfl, List.mem_of_getElem? (i := 1) rfl, List.mem_of_getElem? (i := 2) rfl, trivial⟩) hw) (q_loadN Tn_114 rfl (fun w1 hw => hw.rg (List.mem_append.2 (.inr (List.mem_append.2 (.inl hb7)))) (g7.of_eq 0 4 rfl rfl : rg _ _ _ [.string x16.Kind, .int .i64 x16.N, v18, v19])) rfl) rfl ?_
      refine mq 9 rfl (by kernel_rfl) (fun w1 hw => Kn.of (fun _ _ _ h => h) (AllIn.mem ⟨List.mem_of_getElem? (i := 0) rfl, List.mem_of_getElem? (i := 1) rfl, List.mem_of_getElem? (i := 2) rfl, trivial⟩) hw) (q_fieldAddr Fld_29_1 rfl) rfl ?_
      refine mq 10 rfl (by kernel_rfl) (fun w1 hw => Kn.of (fun _ _ _ h => h) (AllIn.mem ⟨List.mem_of_getElem? (i := 0) rfl, List.mem_of_getElem? (i := 1) rfl, List.mem_of_getElem? (i := 2) rfl, trivial⟩) hw) (q_load1 T1_27 rfl (fun w1 hw => hw.rgO (i := 2) rfl 1 1 [v2] rfl)) rfl ?_
      refine mq 11 rfl (by kernel_rfl) (fun w1 hw => Kn.of (fun _ _ _ h => h) (AllIn.mem ⟨List.mem_of_getElem? (i := 0) rfl, List.mem_of_getElem? (i := 1) rfl, List.mem_of_getElem? (i := 2) rfl, trivial⟩) hw) (q_move rfl) rfl ?_
      obtain ⟨x17, hx16, h⟩ := bind_some h
      obtain ⟨cs8, F10, -, g8, hb8, hs8, r8⟩ := h1.elS (idx_some hx16).2.2
      obtain ⟨v20, G7, v21, G8, v22, G9, rfl, rfl, h26, h27, h28⟩ := r8
      refine mq 12 rfl (by kernel_rfl) (fun w1 hw => Kn.of (fun _ _ _ h => h) (AllIn.mem ⟨List.mem_of_getElem? (i := 0) rfl, List.mem_of_getElem? (i := 1) rfl, List.mem_of_getElem? (i := 2) rfl, trivial⟩) hw) (q_indexAddr Sl_27 rfl rfl h1.rsl hx16) rfl ?_
      refine mq 13 rfl (by kernel_rfl) (fun w1 hw => Kn.of (fun _ _ _ h => h) (AllIn.mem ⟨List.mem_of_getElem? (i := 0) rfl, List.mem_of_getElem? (i := 1) rfl, List.mem_of_getElem? (i := 2) rfl, trivial⟩) hw) (q_fieldAddr Fld_66_2 rfl) rfl ?_
      refine mq 14 rfl (by kernel_rfl) (fun w1 hw => Kn.of (fun _ _ _ h => h) (AllIn.mem ⟨List.mem_of_getElem? (i := 0) rfl, List.mem_of_getElem? (i := 1) rfl, List.mem_of_getElem? (i := 2) rfl, trivial⟩) hw) (q_load1 T1_62 rfl (fun w1 hw => hw.rg (List.mem_append.2 (.inr (List.mem_append.2 (.inr (List.mem_append.2 (.inl hb8)))))) (g8.of_eq 2 1 rfl rfl : rg _ _ _ [v20]))) rfl ?_
      refine mq 15 rfl (by kernel_rfl) (fun w1 hw => Kn.of (fun _ _ _ h => h) (AllIn.mem ⟨List.mem_of_getElem? (i := 0) rfl, List.mem_of_getElem? (i := 1) rfl, List.mem_of_getElem? (i := 2) rfl, trivial⟩) hw) (q_move rfl) rfl ?_
      obtain ⟨x18, hx17, h⟩ := bind_some h
      obtain ⟨cs9, F11, -, g9, hb9, hs9, r9⟩ := h26.el (idx_some hx17).2.2
      obtain ⟨v23, G10, rfl, hq1, h29⟩ := r9
      obtain rfl := hq1.symm
      refine mq 16 rfl (by kernel_rfl) (fun w1 hw => Kn.of (fun _ _ _ h => h) (AllIn.mem ⟨List.mem_of_getElem? (i := 0) rfl, List.mem_of_getElem? (i := 1) rfl, List.mem_of_getElem? (i := 2) rfl, trivial⟩) hw) (q_indexAddr Sl_62 rfl rfl h26 hx17) rfl ?_
      refine mq 17 rfl (by kernel_rfl) (fun w1 hw => Kn.of (fun _ _ _ h => h) (AllIn.mem ⟨List.mem_of_getElem? (i := 0) rfl, List.mem_of_getElem? (i := 1) rfl, List.mem_of_getElem? (i := 2) rfl, trivial⟩) hw) (q_loadN Tn_121 rfl (fun w1 hw => hw.rg (List.mem_append.2 (.inr (List.mem_append.2 (.inr (List.mem_append.2 (.inr ((fun k h => i1 k (hs8 k (List.mem_append.2 (.inl h)))) _ hb9))))))) (g9.of_eq 0 3 rfl rfl : rg _ _ _ [.string x18.Kind, v23, .bool x18.Not])) rfl) rfl ?_
      obtain ⟨x19, hx18, h⟩ := bind_some h
      refine WM.one 18 (by kernel_rfl) (mc rfl (fun _ v Φx D w1 hq hw => Kn.of (fun k hk o ho => hq.2.1 k o ((Dj.app (hq.1.r (i := 3) rfl) (Dj.app (hq.1.r (i := 0) rfl) (Dj.app (hq.1.r (i := 4) rfl) (hq.1.r (i := 5) rfl)))) k hk) ((fun _ _ _ h => h) k hk o ho)) (AllIn.mem ⟨List.mem_of_getElem? (i := 0) rfl, List.mem_of_getElem? (i := 1) rfl, List.mem_of_getElem? (i := 2) rfl, trivial⟩) hw) (k_call (js := []) (R := [ob v4, D2, ob v5, D3, ob v2, X1]) Fun_65 rfl rfl (fun w1 hw ap hl => m_i_AlphaOf_ok hw.fro N x18 h29  hx18)) rfl (fun v24 Φ_5 F12 q3 => ?_))
      obtain ⟨ap3, fr3, v25, v26, rfl, rfl, h30, h31⟩ := q3
      replace h14 := h14.frame RI.lasts fr3 (Dj.sub (ap3.r (i := 3) rfl) (fun k h => hs3 k (List.mem_append.2 (.inl h))))
      replace h15 := h15.frame RI.lasts fr3 (Dj.sub (ap3.r (i := 3) rfl) (fun k h => hs3 k (List.mem_append.2 (.inr h))))
      replace h24 := h24.frame RTVal.lasts fr3 (Dj.sub (ap3.r (i := 1) rfl) (fun k h => hs7 k (List.mem_append.2 (.inl h))))
      replace h25 := h25.frame RI.lasts fr3 (Dj.sub (ap3.r (i := 1) rfl) (fun k h => hs7 k (List.mem_append.2 (.inr h))))
      replace h1 := h1.frame RTRule.lasts fr3 (ap3.r (i := 4) rfl) (Dj.sub (ap3.r (i := 5) rfl) i1)
      replace h2 := h2.frame OTAlpha.lasts fr3 (ap3.r (i := 0) rfl) (ap3.r (i := 1) rfl)
      replace h3 := h3.frame OTChain.lasts fr3 (ap3.r (i := 2) rfl) (ap3.r (i := 3) rfl)
      obtain ⟨x20, hx19, h⟩ := bind_some h
      refine WM.one 19 (by kernel_rfl) (mp rfl (fun _ w1 hw => Kn.of (fun k hk o ho => fr3 k o ((Dj.app (ap3.r (i := 3) rfl) (Dj.app (ap3.r (i := 0) rfl) (Dj.app (ap3.r (i := 4) rfl) (ap3.r (i := 5) rfl)))) k hk) ((fun _ _ _ h => h) k hk o ho)) (AllIn.mem ⟨List.mem_of_getElem? (i := 0) rfl, List.mem_of_getElem? (i := 1) rfl, List.mem_of_getElem? (i := 2) rfl, trivial⟩) hw) (p_call Fun_63 rfl (fun w1 hw => m_i_SameAlpha_ok hw.fro N x16 x19 h24 h25 h30.rsl h31.rsl hx19)) rfl ?_)
      refine mq 20 rfl (by kernel_rfl) (fun w1 hw => Kn.of (fun k hk o ho => fr3 k o ((Dj.app (ap3.r (i := 3) rfl) (Dj.app (ap3.r (i := 0) rfl) (Dj.app (ap3.r (i := 4) rfl) (ap3.r (i := 5) rfl)))) k hk) ((fun _ _ _ h => h) k hk o ho)) (AllIn.mem ⟨List.mem_of_getElem? (i := 0) rfl, List.mem_of_getElem? (i := 1) rfl, List.mem_of_getElem? (i := 2) rfl, trivial⟩) hw) (q_not rfl) rfl ?_
      refine WM.nil (by kernel_rfl) ?_
      refine WT.cond rfl (fun c13 => ?_) (fun c13 => ?_)
      · replace h := ite_t h c13
        refine WT.seq ?_
        refine WT.region ?_
        refine lq (q_assign rfl) rfl ?_
        refine WL.nil ?_
        refine WT.ret Try.func11 (resOk.one rfl) (fun w1 hw => ?_)
        subst hb0
        cases h
        exact post_of_St hw
      replace h := ite_f h c13
      refine WT.skip ?_
      refine WT.inBlock ?_
      refine WT.region ?_
      refine lq (q_move rfl) rfl ?_
      refine lq (q_add rfl rfl) rfl ?_
      refine lq (q_assign rfl) rfl ?_
      refine WL.nil ?_
      refine WT.inLoop (WT.mono (l' := [(3, .pointer (some ⟨b_1, 0, none⟩)), (4, .pointer (some ⟨b_2, 0, none⟩)), (7, .int .i64 s3), (8, .pointer (some ⟨b_3, 0, none⟩)), (9, .int .i64 x13), (10, .int .i64 (IntKind.i64.wrap (s4 + 1)))]) (S' := St w0 Φ_5 [(b_3, .cells #[v10, v11] 116 (0, 0)), (b_2, .cells #[v4, v5] 46 (0, 0)), (b_1, .cells #[.string x2.Name, v2] 29 (0, 0))] [ob v4, D2, ob v5, D3, ob v2, X1]) ⟨rfl, rfl, rfl, rfl, rfl, rfl, trivial⟩ (fun w1 hw => (hw.sel (js := [2, 2, 2, 2, 2, 2]) rfl).selO (js := [0, 0, 0]) rfl) ?_)
      exact ih4 (Φ_5, IntKind.i64.wrap (s4 + 1)) ⟨h, h1, h2, h3, h14, h15⟩
    replace h := ite_f h c12
    refine WT.exit rfl ?_
    refine WT.inBlock ?_
    refine WT.region ?_
    refine lq (q_move rfl) rfl ?_
    refine lq (q_add rfl rfl) rfl ?_
    refine lq (q_assign rfl) rfl ?_
    refine WL.nil ?_
    refine WT.inLoop (WT.mono (l' := [(3, .pointer (some ⟨b_1, 0, none⟩)), (4, .pointer (some ⟨b_2, 0, none⟩)), (7, .int .i64 (IntKind.i64.wrap (s3 + 1)))]) (S' := St w0 Φ_4 [(b_2, .cells #[v4, v5] 46 (0, 0)), (b_1, .cells #[.string x2.Name, v2] 29 (0, 0))] [ob v4, D2, ob v5, D3, ob v2, X1]) ⟨rfl, rfl, rfl, trivial⟩ (fun w1 hw => (hw.sel (js := [0, 0, 0, 0, 0, 0]) rfl).selO (js := [1, 1]) rfl) ?_)
    exact ih3 (Φ_4, IntKind.i64.wrap (s3 + 1)) ⟨h, h1, h2, h3⟩
  replace h := ite_f h c9
  refine WT.exit rfl ?_
  refine WT.seq ?_
  refine WT.region ?_
  refine lq (q_assign rfl) rfl ?_
  refine WL.nil ?_
  refine WT.ret Try.func11 (resOk.one rfl) (fun w1 hw => ?_)
  subst hb0
  cases h
  exact post_of_St hw
end Go.Proofs.Ytjhlmnbkfdkmpaa
