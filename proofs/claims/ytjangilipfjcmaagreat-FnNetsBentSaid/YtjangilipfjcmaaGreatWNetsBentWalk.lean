/- Printed by a program of ours: each Go function computes its Lean function. -/
import Derived.Test.YtjangilipfjcmaaGreatProg
import Derived.Test.YtjangilipfjcmaaGreatWNetsBentWalk4
namespace Go.Proofs.YtjangilipfjcmaaGreat
open Eng
open Go.RowKit (Below)
set_option linter.unusedVariables false
set_option linter.unusedSimpArgs false

set_option maxRecDepth 100000
set_option maxHeartbeats 1000000
theorem m_i_netIn_ok {Φ : Hp} {w : World} (hΦ : In Φ w) (N : Nat) (p0 : TDef) {pv0_0 : Value} {pG0_0 : List Nat} (ph0_0 : RSl RTRule 5 Φ pG0_0 pv0_0 p0.Rules) {r : TNet} (h : m_i_netIn N p0 = some r) :
  Calls Tryz.prog 50 [.agg [.string p0.Name, pv0_0].toArray].toArray w (PostG Φ w [] (fun Φ' Fs v => ∃ (sr_0_0 : Value) (Dr_0_0 : List Nat) (sr_0_1 : Value) (Dr_0_1 : List Nat), v = .agg [sr_0_0, sr_0_1].toArray ∧ Fs = [ob sr_0_0, Dr_0_0, ob sr_0_1, Dr_0_1] ∧ OSl OTAlpha 102 4 Φ' Dr_0_0 sr_0_0 r.Alphas ∧ OSl OTChain 43 2 Φ' Dr_0_1 sr_0_1 r.Chains)) := by
 refine enter Tryz.func50 rfl Tryz.ntmps50 rfl (St.start0 hΦ) ?_
 have pa0_0 : Old ⟨w, [], Φ⟩ pG0_0 := Old.mk hΦ ph0_0.kn (Dj.empty _)
 revert pa0_0
 generalize hb0 : (⟨w, [], Φ⟩ : Base) = w0
 intro pa0_0
 unfold m_i_netIn at h
 refine WT.seq <| WT.region ?_
 refine ln (n_box (C := #[.string p0.Name, pv0_0]) rfl rfl) rfl (fun b_1 => ?_)
 refine ln (n_alloc (C := #[.slice none 0 0, .slice none 0 0]) Zr_27 rfl) rfl (fun b_2 => ?_)
 refine WL.nil <| WT.seq <| WT.region ?_
 refine ln (n_alloc (C := #[.slice none 0 0, .slice none 0 0]) Zr_27 rfl) rfl (fun b_3 => ?_)
 refine WL.nil <| WT.seq <| sr <| lq (q_fieldAddr Fld_30_1 rfl) rfl <| lq (q_load1 T1_28 rfl (fun w1 hw => hw.rgO (i := 2) rfl 1 1 [pv0_0] rfl)) rfl <| lq (q_lenR Sl_28 rfl rfl ph0_0) rfl <| lq (q_move rfl) rfl <| WL.nil <| WT.block <| WT.loop <| WT.conv (S' := St w0 Φ [(b_3, .cells #[.slice none 0 0, .slice none 0 0] 27 (0, 0)), (b_2, .cells #[.slice none 0 0, .slice none 0 0] 27 (0, 0)), (b_1, .cells #[.string p0.Name, pv0_0] 30 (0, 0))] (ob (.slice none 0 0) :: [])) (fun w1 hw => hw.addNil) ?_
 refine WT.conv (S' := St w0 Φ [(b_3, .cells #[.slice none 0 0, .slice none 0 0] 27 (0, 0)), (b_2, .cells #[.slice none 0 0, .slice none 0 0] 27 (0, 0)), (b_1, .cells #[.string p0.Name, pv0_0] 30 (0, 0))] ([] :: [ob (.slice none 0 0)])) (fun w1 hw => hw.addNil) ?_
 have k1 := OSl.nil OTAlpha 102 4 Φ
 refine WT.conv (S' := St w0 Φ [(b_3, .cells #[(.slice none 0 0), .slice none 0 0] 27 (0, 0)), (b_2, .cells #[.slice none 0 0, .slice none 0 0] 27 (0, 0)), (b_1, .cells #[.string p0.Name, pv0_0] 30 (0, 0))] (ob (.slice none 0 0) :: [[], ob (.slice none 0 0)])) (fun w1 hw => hw.addNil) <| WT.conv (S' := St w0 Φ [(b_3, .cells #[(.slice none 0 0), .slice none 0 0] 27 (0, 0)), (b_2, .cells #[.slice none 0 0, .slice none 0 0] 27 (0, 0)), (b_1, .cells #[.string p0.Name, pv0_0] 30 (0, 0))] ([] :: [ob (.slice none 0 0), [], ob (.slice none 0 0)])) (fun w1 hw => hw.addNil) ?_
 have k2 := OSl.nil OTChain 43 2 Φ
 refine WT.mono (l' := [(2, .pointer (some ⟨b_2, 0, none⟩)), (3, .pointer (some ⟨b_3, 0, none⟩)), (11, pv0_0), (12, .int .i64 (p0.Rules.length : Int)), (13, .int .i64 0)]) (S' := St w0 Φ [(b_3, .cells #[(.slice none 0 0), (.slice none 0 0)] 27 (0, 0)), (b_2, .cells #[.slice none 0 0, .slice none 0 0] 27 (0, 0))] [[], ob (.slice none 0 0), [], ob (.slice none 0 0)]) ⟨rfl, rfl, rfl, rfl, rfl, trivial⟩ (fun w1 hw => (hw.sel (js := [0, 0, 0, 0]) rfl).selO (js := [0, 0]) rfl) ?_
 refine loop_ind (σ := Hp × (List TAlpha) × Value × List Nat × (List TChain) × Value × List Nat × Int) (fun s => [(2, .pointer (some ⟨b_2, 0, none⟩)), (3, .pointer (some ⟨b_3, 0, none⟩)), (11, pv0_0), (12, .int .i64 (p0.Rules.length : Int)), (13, .int .i64 s.2.2.2.2.2.2.2)]) (fun s => St w0 s.1 [(b_3, .cells #[s.2.2.1, s.2.2.2.2.2.1] 27 (0, 0)), (b_2, .cells #[.slice none 0 0, .slice none 0 0] 27 (0, 0))] [s.2.2.2.2.2.2.1, ob s.2.2.2.2.2.1, s.2.2.2.1, ob s.2.2.1]) (fun m s => m_i_netIn_l1 N p0 m s.2.1 s.2.2.2.2.1 s.2.2.2.2.2.2.2 = some r ∧ (OSl OTAlpha 102 4 s.1 s.2.2.2.1 s.2.2.1 s.2.1) ∧ (OSl OTChain 43 2 s.1 s.2.2.2.2.2.2.1 s.2.2.2.2.2.1 s.2.2.2.2.1) ∧ (RSl RTRule 5 s.1 pG0_0 pv0_0 p0.Rules)) (fun s hm => none_ne (show (none : Option (TNet)) = some r from hm.1)) (fun n1 ih1 s hm => ?_) N (Φ, ([] : List TAlpha), (.slice none 0 0), [], ([] : List TChain), (.slice none 0 0), [], 0) ⟨h, k1, k2, ph0_0⟩
 obtain ⟨Φ_1, s1, u1, D1, s2, u2, D2, s3⟩ := s
 obtain ⟨h, k3, k4, ph0_0⟩ := hm
 replace h : m_i_netIn_l1 N p0 (n1 + 1) s1 s2 s3 = some r := h
 replace k3 : OSl OTAlpha 102 4 Φ_1 D1 u1 s1 := k3
 replace k4 : OSl OTChain 43 2 Φ_1 D2 u2 s2 := k4
 replace ph0_0 : RSl RTRule 5 Φ_1 pG0_0 pv0_0 p0.Rules := ph0_0
 show WT _ _ [(2, .pointer (some ⟨b_2, 0, none⟩)), (3, .pointer (some ⟨b_3, 0, none⟩)), (11, pv0_0), (12, .int .i64 (p0.Rules.length : Int)), (13, .int .i64 s3)] (St w0 Φ_1 [(b_3, .cells #[u1, u2] 27 (0, 0)), (b_2, .cells #[.slice none 0 0, .slice none 0 0] 27 (0, 0))] [D2, ob u2, D1, ob u1])
 unfold m_i_netIn_l1 at h
 refine sr <| lq (q_lss rfl rfl) rfl <| WL.nil <| WT.seq ?_
 refine WT.cond rfl (fun c1 => ?_) (fun c1 => ?_)
 ·replace h := ite_t h c1
  refine WT.skip <| WT.seq <| WT.block <| WT.seq <| WT.region ?_
  obtain ⟨x1, hx1, h⟩ := bind_some h
  obtain ⟨cs1, F1, -, g1, hb1, hs1, r1⟩ := ph0_0.el (idx_some hx1).2.2
  obtain ⟨v1, G1, v2, G2, v3, G3, rfl, rfl, h1, h2, h3⟩ := r1
  refine lq (q_indexAddr Sl_28 rfl rfl ph0_0 hx1) rfl <| lq (q_loadN Tn_49 rfl (fun w1 hw => (g1.of_eq 0 5 rfl rfl : rg _ _ _ [.string x1.Name, .int .i64 x1.Sal, v1, v2, v3]).rangeAt hw.fro) rfl) rfl ?_
  refine ln (n_alloc (C := #[.string eS, .int .i64 0, .slice none 0 0, .slice none 0 0, .slice none 0 0]) Zr_49 rfl) rfl (fun b_4 => ?_)
  refine ls (s_store (i := 0) (vs := [.string x1.Name, .int .i64 x1.Sal, v1, v2, v3]) (C' := [.string x1.Name, .int .i64 x1.Sal, v1, v2, v3]) (O' := [(b_4, .cells #[.string x1.Name, .int .i64 x1.Sal, v1, v2, v3] 49 (0, 0)), (b_3, .cells #[u1, u2] 27 (0, 0)), (b_2, .cells #[.slice none 0 0, .slice none 0 0] 27 (0, 0))]) Sz_49 rfl rfl rfl rfl rfl rfl ⟨rfl, rfl, h1.one, h2.one, h3.one, trivial⟩ rfl rfl) rfl <| WL.nil ?_
  refine WT.seq <| WT.region ?_
  refine ln (n_alloc (C := #[.slice none 0 0, .slice none 0 0]) Zr_43 rfl) rfl (fun b_5 => ?_)
  refine WL.nil <| WT.seq <| sr <| lq (q_fieldAddr Fld_49_2 rfl) rfl <| lq (q_load1 T1_45 rfl (fun w1 hw => hw.rgO (i := 1) rfl 2 1 [v1] rfl)) rfl <| lq (q_lenR Sl_45 rfl rfl h1) rfl <| lq (q_move rfl) rfl <| WL.nil <| WT.block <| WT.loop <| WT.conv (S' := St w0 Φ_1 [(b_5, .cells #[.slice none 0 0, .slice none 0 0] 43 (0, 0)), (b_4, .cells #[.string x1.Name, .int .i64 x1.Sal, v1, v2, v3] 49 (0, 0)), (b_3, .cells #[u1, u2] 27 (0, 0)), (b_2, .cells #[.slice none 0 0, .slice none 0 0] 27 (0, 0))] (ob (.slice none 0 0) :: [D2, ob u2, D1, ob u1])) (fun w1 hw => hw.addNil) ?_
  have k5 := OSl.nil (RI .i64) 3 1 Φ_1
  refine WT.conv (S' := St w0 Φ_1 [(b_5, .cells #[.slice none 0 0, (.slice none 0 0)] 43 (0, 0)), (b_4, .cells #[.string x1.Name, .int .i64 x1.Sal, v1, v2, v3] 49 (0, 0)), (b_3, .cells #[u1, u2] 27 (0, 0)), (b_2, .cells #[.slice none 0 0, .slice none 0 0] 27 (0, 0))] (ob (.slice none 0 0) :: [ob (.slice none 0 0), D2, ob u2, D1, ob u1])) (fun w1 hw => hw.addNil) ?_
  have k6 := OSl.nil (RI .i64) 3 1 Φ_1
  refine WT.mono (l' := [(2, .pointer (some ⟨b_2, 0, none⟩)), (3, .pointer (some ⟨b_3, 0, none⟩)), (6, .pointer (some ⟨b_5, 0, none⟩)), (11, pv0_0), (12, .int .i64 (p0.Rules.length : Int)), (13, .int .i64 s3), (18, v1), (19, .int .i64 (x1.Pats.length : Int)), (20, .int .i64 0)]) (S' := St w0 Φ_1 [(b_5, .cells #[(.slice none 0 0), (.slice none 0 0)] 43 (0, 0)), (b_3, .cells #[u1, u2] 27 (0, 0)), (b_2, .cells #[.slice none 0 0, .slice none 0 0] 27 (0, 0))] [ob (.slice none 0 0), ob (.slice none 0 0), D2, ob u2, D1, ob u1]) ⟨rfl, rfl, rfl, rfl, rfl, rfl, rfl, rfl, rfl, trivial⟩ (fun w1 hw => (hw.sel (js := [0, 0, 0, 0, 0, 0]) rfl).selO (js := [0, 1, 1]) rfl) ?_
  refine loop_ind (σ := Hp × (List TAlpha) × Value × List Nat × (List Int) × Value × (List Int) × Value × Int) (fun s => [(2, .pointer (some ⟨b_2, 0, none⟩)), (3, .pointer (some ⟨b_3, 0, none⟩)), (6, .pointer (some ⟨b_5, 0, none⟩)), (11, pv0_0), (12, .int .i64 (p0.Rules.length : Int)), (13, .int .i64 s3), (18, v1), (19, .int .i64 (x1.Pats.length : Int)), (20, .int .i64 s.2.2.2.2.2.2.2.2)]) (fun s => St w0 s.1 [(b_5, .cells #[s.2.2.2.2.2.2.2.1, s.2.2.2.2.2.1] 43 (0, 0)), (b_3, .cells #[s.2.2.1, u2] 27 (0, 0)), (b_2, .cells #[.slice none 0 0, .slice none 0 0] 27 (0, 0))] [ob s.2.2.2.2.2.2.2.1, ob s.2.2.2.2.2.1, D2, ob u2, s.2.2.2.1, ob s.2.2.1]) (fun m s => m_i_netIn_l2 N s2 s3 (m_i_netIn_l1 N p0 n1) x1 m s.2.1 s.2.2.2.2.1 s.2.2.2.2.2.2.1 s.2.2.2.2.2.2.2.2 = some r ∧ (OSl OTAlpha 102 4 s.1 s.2.2.2.1 s.2.2.1 s.2.1) ∧ (OSl OTChain 43 2 s.1 D2 u2 s2) ∧ (OSl (RI .i64) 3 1 s.1 [] s.2.2.2.2.2.1 s.2.2.2.2.1) ∧ (OSl (RI .i64) 3 1 s.1 [] s.2.2.2.2.2.2.2.1 s.2.2.2.2.2.2.1) ∧ (RSl RTRule 5 s.1 pG0_0 pv0_0 p0.Rules) ∧ (RSl RTPat 3 s.1 G1 v1 x1.Pats)) (fun s hm => none_ne (show (none : Option (TNet)) = some r from hm.1)) (fun n2 ih2 s hm => ?_) N (Φ_1, s1, u1, D1, ([] : List Int), (.slice none 0 0), ([] : List Int), (.slice none 0 0), 0) ⟨h, k3, k4, k5, k6, ph0_0, h1⟩
  obtain ⟨Φ_2, s4, u3, D3, s5, u4, s6, u5, s7⟩ := s
  obtain ⟨h, k7, k4, k8, k9, ph0_0, h1⟩ := hm
  replace h : m_i_netIn_l2 N s2 s3 (m_i_netIn_l1 N p0 n1) x1 (n2 + 1) s4 s5 s6 s7 = some r := h
  replace k7 : OSl OTAlpha 102 4 Φ_2 D3 u3 s4 := k7
  replace k4 : OSl OTChain 43 2 Φ_2 D2 u2 s2 := k4
  replace k8 : OSl (RI .i64) 3 1 Φ_2 [] u4 s5 := k8
  replace k9 : OSl (RI .i64) 3 1 Φ_2 [] u5 s6 := k9
  replace ph0_0 : RSl RTRule 5 Φ_2 pG0_0 pv0_0 p0.Rules := ph0_0
  replace h1 : RSl RTPat 3 Φ_2 G1 v1 x1.Pats := h1
  show WT _ _ [(2, .pointer (some ⟨b_2, 0, none⟩)), (3, .pointer (some ⟨b_3, 0, none⟩)), (6, .pointer (some ⟨b_5, 0, none⟩)), (11, pv0_0), (12, .int .i64 (p0.Rules.length : Int)), (13, .int .i64 s3), (18, v1), (19, .int .i64 (x1.Pats.length : Int)), (20, .int .i64 s7)] (St w0 Φ_2 [(b_5, .cells #[u5, u4] 43 (0, 0)), (b_3, .cells #[u3, u2] 27 (0, 0)), (b_2, .cells #[.slice none 0 0, .slice none 0 0] 27 (0, 0))] [ob u5, ob u4, D2, ob u2, D3, ob u3])
  unfold m_i_netIn_l2 at h
  refine sr <| lq (q_lss rfl rfl) rfl <| WL.nil <| WT.seq ?_
  refine WT.cond rfl (fun c2 => ?_) (fun c2 => ?_)
  ·replace h := ite_t h c2
   refine WT.skip <| WT.seq <| WT.block <| WT.seq <| WT.region ?_
   obtain ⟨x2, hx2, h⟩ := bind_some h
   obtain ⟨cs2, F2, -, g2, hb2, hs2, r2⟩ := h1.el (idx_some hx2).2.2
   obtain ⟨v4, G4, rfl, hq1, h4⟩ := r2
   obtain rfl := hq1.symm
   refine lq (q_indexAddr Sl_45 rfl rfl h1 hx2) rfl <| lq (q_loadN Tn_114 rfl (fun w1 hw => (g2.of_eq 0 3 rfl rfl : rg _ _ _ [.string x2.Kind, v4, .bool x2.Not]).rangeAt hw.fro) rfl) rfl ?_
   refine ln (n_alloc (C := #[.string eS, .slice none 0 0, .bool false]) Zr_114 rfl) rfl (fun b_6 => ?_)
   refine ls (s_store (i := 0) (vs := [.string x2.Kind, v4, .bool x2.Not]) (C' := [.string x2.Kind, v4, .bool x2.Not]) (O' := [(b_6, .cells #[.string x2.Kind, v4, .bool x2.Not] 114 (0, 0)), (b_5, .cells #[u5, u4] 43 (0, 0)), (b_3, .cells #[u3, u2] 27 (0, 0)), (b_2, .cells #[.slice none 0 0, .slice none 0 0] 27 (0, 0))]) Sz_114 rfl rfl rfl rfl rfl rfl ⟨rfl, h4.one, rfl, trivial⟩ rfl rfl) rfl <| WL.nil <| WT.seq <| WT.region ?_
   refine lq (q_loadN Tn_114 rfl (fun w1 hw => hw.rgO (i := 0) rfl 0 3 [.string x2.Kind, v4, .bool x2.Not] rfl) rfl) rfl ?_
   refine WL.frz (js := [2]) (R := [(b_6, .cells #[.string x2.Kind, v4, .bool x2.Not] 114 (0, 0)), (b_5, .cells #[u5, u4] 43 (0, 0)), (b_2, .cells #[.slice none 0 0, .slice none 0 0] 27 (0, 0))]) rfl (fun Φ_3 fr1 k10 => ?_)
   replace ph0_0 := ph0_0.frame RTRule.lasts fr1 (Dj.empty _)
   replace h1 := h1.frame RTPat.lasts fr1 (Dj.empty _)
   replace h4 := h4.frame RTArg.lasts fr1 (Dj.empty _)
   replace k7 := k7.frame OTAlpha.lasts fr1 (Dj.empty _) (Dj.empty _)
   replace k4 := k4.frame OTChain.lasts fr1 (Dj.empty _) (Dj.empty _)
   replace k8 := k8.frame RI.lasts fr1 (Dj.empty _) (Dj.empty _)
   replace k9 := k9.frame RI.lasts fr1 (Dj.empty _) (Dj.empty _)
   obtain ⟨x3, hx3, h⟩ := bind_some h
   refine lc (k_call (js := [0, 5, 4]) (R := [ob u5, ob u4, D2, ob u2]) Fun_108 rfl rfl (fun w1 hw ap hl => m_i_Net_alphaAt_ok hw.fro N (⟨s4, s2⟩ : TNet) x2 k7 (k4.rslG OTChain.gives) k10 h4 (Dj.app (ap.r (i := 3) rfl) (ap.r (i := 2) rfl)) (Dj.sub (Dj.sub (ap.o pa0_0) (fun k h => hs1 k (List.mem_append.2 (.inl h)))) (fun k h => hs2 k h)) ap.nd hl hx3)) rfl (fun v5 Φ_4 F3 q1 => ?_)
   obtain ⟨ap1, fr2, v6, D4, rfl, rfl, h5, e1, h6⟩ := q1
   replace ph0_0 := ph0_0.frame RTRule.lasts fr2 (ap1.o pa0_0)
   replace h1 := h1.frame RTPat.lasts fr2 (Dj.sub (ap1.o pa0_0) (fun k h => hs1 k (List.mem_append.2 (.inl h))))
   replace h4 := h4.frame RTArg.lasts fr2 (Dj.sub (Dj.sub (ap1.o pa0_0) (fun k h => hs1 k (List.mem_append.2 (.inl h)))) (fun k h => hs2 k h))
   replace k4 := k4.frame OTChain.lasts fr2 (ap1.r (i := 3) rfl) (ap1.r (i := 2) rfl)
   replace k8 := k8.frame RI.lasts fr2 (ap1.r (i := 1) rfl) (Dj.nil _)
   replace k9 := k9.frame RI.lasts fr2 (ap1.r (i := 0) rfl) (Dj.nil _)
   refine lq (q_assign rfl) rfl <| WL.nil <| sr <| lq (q_fieldAddr Fld_114_2 rfl) rfl <| lq (q_load1 T1_4 rfl (fun w1 hw => hw.rgO (i := 0) rfl 2 1 [.bool x2.Not] rfl)) rfl <| WL.nil ?_
   refine WT.cond rfl (fun c3 => ?_) (fun c3 => ?_)
   ·replace h := ite_t h c3
    refine WT.region <| lq (q_fieldAddr Fld_43_1 rfl) rfl <| lq (q_load1 T1_41 rfl (fun w1 hw => hw.rgO (i := 1) rfl 1 1 [u4] rfl)) rfl <| lq (q_move rfl) rfl ?_
    have rc1 : RC (RI .i64) 1 Φ_4 ([[]] : List (List Nat)) [.int .i64 x3.1] ([x3.1] : List Int) := RC.cons (c := [.int .i64 x3.1]) (cells := []) ⟨rfl, rfl⟩ rfl (RC.nil _ _ _)
    refine le' (e_lit (vs := [(0, .int .i64 x3.1)]) (C := #[.int .i64 x3.1]) RI.lasts Sl_41 Zr_3 rfl rfl rfl rfl (fill_made MC_3_1 (fill_cons (cells := [.int .i64 0]) (c := [.int .i64 x3.1]) (C' := [.int .i64 x3.1]) rfl rfl rfl rfl rfl (fill_nil))) rfl rc1 rfl (by simpa using Kw.nil)) rfl (fun v7 Φ_5 D5 q2 => ?_)
    obtain ⟨fr3, h7⟩ := q2
    replace h7 : OSl (RI .i64) 3 1 Φ_5 [] v7 ([x3.1] : List Int) := by simpa using h7
    replace ph0_0 := ph0_0.frame RTRule.lasts fr3 (Dj.empty _)
    replace h1 := h1.frame RTPat.lasts fr3 (Dj.empty _)
    replace k4 := k4.frame OTChain.lasts fr3 (Dj.empty _) (Dj.empty _)
    replace k8 := k8.frame RI.lasts fr3 (Dj.empty _) (Dj.empty _)
    replace k9 := k9.frame RI.lasts fr3 (Dj.empty _) (Dj.empty _)
    replace h5 := h5.frame OTAlpha.lasts fr3 (Dj.empty _) (Dj.empty _)
    replace h6 := fr3 _ _ (by simp) h6
    obtain ⟨x4, hx4, h⟩ := bind_some h
    refine le' (e_appF RI.lasts RI.one RI.flat Sl_41 Ei_3 rfl rfl rfl rfl rfl (js := [5]) (Rr := [ob v7, [b_3], ob v6, D4, ob u5, D2, ob u2]) rfl k8 h7.rsl hx4) rfl (fun v8 Φ_6 D6 q3 => ?_)
    obtain ⟨⟨ap2, fr4⟩, h8⟩ := q3
    replace ph0_0 := ph0_0.frame RTRule.lasts fr4 (ap2.o pa0_0)
    replace h1 := h1.frame RTPat.lasts fr4 (Dj.sub (ap2.o pa0_0) (fun k h => hs1 k (List.mem_append.2 (.inl h))))
    replace k4 := k4.frame OTChain.lasts fr4 (ap2.r (i := 6) rfl) (ap2.r (i := 5) rfl)
    replace k9 := k9.frame RI.lasts fr4 (ap2.r (i := 4) rfl) (Dj.nil _)
    replace h5 := h5.frame OTAlpha.lasts fr4 (ap2.r (i := 2) rfl) (ap2.r (i := 3) rfl)
    replace h6 := fr4 _ _ ((ap2.r (i := 1) rfl) _ (by simp)) h6
    refine lq (q_fieldAddr Fld_43_1 rfl) rfl <| ls (s_store (i := 1) (vs := [v8]) (C' := [u5, v8]) (O' := [(b_6, .cells #[.string x2.Kind, v4, .bool x2.Not] 114 (0, 0)), (b_5, .cells #[u5, v8] 43 (0, 0)), (b_2, .cells #[.slice none 0 0, .slice none 0 0] 27 (0, 0))]) Sz_41 rfl rfl rfl (one_cells h8.one) rfl rfl ⟨h8.one, trivial⟩ rfl rfl) rfl <| WL.nil <| WT.inBlock <| WT.region <| lq (q_add rfl rfl) rfl <| lq (q_move rfl) rfl <| WL.nil ?_
    refine WT.thw (js := [2]) (R := [ob v8, ob v7, ob v6, D4, ob u5, D2, ob u2]) rfl h6 (fun Φ_7 ap3 fr5 => ?_)
    replace ph0_0 := ph0_0.frame RTRule.lasts fr5 (ap3.o pa0_0)
    replace h1 := h1.frame RTPat.lasts fr5 (Dj.sub (ap3.o pa0_0) (fun k h => hs1 k (List.mem_append.2 (.inl h))))
    replace k4 := k4.frame OTChain.lasts fr5 (ap3.r (i := 6) rfl) (ap3.r (i := 5) rfl)
    replace h8 := h8.frame RI.lasts fr5 (ap3.r (i := 0) rfl) (Dj.nil _)
    replace k9 := k9.frame RI.lasts fr5 (ap3.r (i := 4) rfl) (Dj.nil _)
    replace h5 := h5.frame OTAlpha.lasts fr5 (ap3.r (i := 2) rfl) (ap3.r (i := 3) rfl)
    refine WT.inLoop (WT.mono (l' := [(2, .pointer (some ⟨b_2, 0, none⟩)), (3, .pointer (some ⟨b_3, 0, none⟩)), (6, .pointer (some ⟨b_5, 0, none⟩)), (11, pv0_0), (12, .int .i64 (p0.Rules.length : Int)), (13, .int .i64 s3), (18, v1), (19, .int .i64 (x1.Pats.length : Int)), (20, .int .i64 (IntKind.i64.wrap (s7 + 1)))]) (S' := St w0 Φ_7 [(b_5, .cells #[u5, v8] 43 (0, 0)), (b_3, .cells #[v6, u2] 27 (0, 0)), (b_2, .cells #[.slice none 0 0, .slice none 0 0] 27 (0, 0))] [ob u5, ob v8, D2, ob u2, D4, ob v6]) ⟨rfl, rfl, rfl, rfl, rfl, rfl, rfl, rfl, rfl, trivial⟩ (fun w1 hw => (hw.sel (js := [4, 0, 3, 3, 2, 1]) rfl).selO (js := [2, 0, 1]) rfl) ?_)
    exact ih2 (Φ_7, x3.2.Alphas, v6, D4, x4, v8, s6, u5, IntKind.i64.wrap (s7 + 1)) ⟨h, h5, k4, h8, k9, ph0_0, h1⟩
   replace h := ite_f h c3
   refine WT.region <| lq (q_fieldAddr Fld_43_0 rfl) rfl <| lq (q_load1 T1_41 rfl (fun w1 hw => hw.rgO (i := 1) rfl 0 1 [u5] rfl)) rfl <| lq (q_move rfl) rfl ?_
   have rc2 : RC (RI .i64) 1 Φ_4 ([[]] : List (List Nat)) [.int .i64 x3.1] ([x3.1] : List Int) := RC.cons (c := [.int .i64 x3.1]) (cells := []) ⟨rfl, rfl⟩ rfl (RC.nil _ _ _)
   refine le' (e_lit (vs := [(0, .int .i64 x3.1)]) (C := #[.int .i64 x3.1]) RI.lasts Sl_41 Zr_3 rfl rfl rfl rfl (fill_made MC_3_1 (fill_cons (cells := [.int .i64 0]) (c := [.int .i64 x3.1]) (C' := [.int .i64 x3.1]) rfl rfl rfl rfl rfl (fill_nil))) rfl rc2 rfl (by simpa using Kw.nil)) rfl (fun v9 Φ_8 D7 q4 => ?_)
   obtain ⟨fr6, h9⟩ := q4
   replace h9 : OSl (RI .i64) 3 1 Φ_8 [] v9 ([x3.1] : List Int) := by simpa using h9
   replace ph0_0 := ph0_0.frame RTRule.lasts fr6 (Dj.empty _)
   replace h1 := h1.frame RTPat.lasts fr6 (Dj.empty _)
   replace k4 := k4.frame OTChain.lasts fr6 (Dj.empty _) (Dj.empty _)
   replace k8 := k8.frame RI.lasts fr6 (Dj.empty _) (Dj.empty _)
   replace k9 := k9.frame RI.lasts fr6 (Dj.empty _) (Dj.empty _)
   replace h5 := h5.frame OTAlpha.lasts fr6 (Dj.empty _) (Dj.empty _)
   replace h6 := fr6 _ _ (by simp) h6
   obtain ⟨x5, hx5, h⟩ := bind_some h
   refine le' (e_appF RI.lasts RI.one RI.flat Sl_41 Ei_3 rfl rfl rfl rfl rfl (js := [4]) (Rr := [ob v9, [b_3], ob v6, D4, ob u4, D2, ob u2]) rfl k9 h9.rsl hx5) rfl (fun v10 Φ_9 D8 q5 => ?_)
   obtain ⟨⟨ap4, fr7⟩, h10⟩ := q5
   replace ph0_0 := ph0_0.frame RTRule.lasts fr7 (ap4.o pa0_0)
   replace h1 := h1.frame RTPat.lasts fr7 (Dj.sub (ap4.o pa0_0) (fun k h => hs1 k (List.mem_append.2 (.inl h))))
   replace k4 := k4.frame OTChain.lasts fr7 (ap4.r (i := 6) rfl) (ap4.r (i := 5) rfl)
   replace k8 := k8.frame RI.lasts fr7 (ap4.r (i := 4) rfl) (Dj.nil _)
   replace h5 := h5.frame OTAlpha.lasts fr7 (ap4.r (i := 2) rfl) (ap4.r (i := 3) rfl)
   replace h6 := fr7 _ _ ((ap4.r (i := 1) rfl) _ (by simp)) h6
   refine lq (q_fieldAddr Fld_43_0 rfl) rfl <| ls (s_store (i := 1) (vs := [v10]) (C' := [v10, u4]) (O' := [(b_6, .cells #[.string x2.Kind, v4, .bool x2.Not] 114 (0, 0)), (b_5, .cells #[v10, u4] 43 (0, 0)), (b_2, .cells #[.slice none 0 0, .slice none 0 0] 27 (0, 0))]) Sz_41 rfl rfl rfl (one_cells h10.one) rfl rfl ⟨h10.one, trivial⟩ rfl rfl) rfl <| WL.nil <| WT.inBlock <| WT.region <| lq (q_add rfl rfl) rfl <| lq (q_move rfl) rfl <| WL.nil ?_
   refine WT.thw (js := [2]) (R := [ob v10, ob v9, ob v6, D4, ob u4, D2, ob u2]) rfl h6 (fun Φ_10 ap5 fr8 => ?_)
   replace ph0_0 := ph0_0.frame RTRule.lasts fr8 (ap5.o pa0_0)
   replace h1 := h1.frame RTPat.lasts fr8 (Dj.sub (ap5.o pa0_0) (fun k h => hs1 k (List.mem_append.2 (.inl h))))
   replace k4 := k4.frame OTChain.lasts fr8 (ap5.r (i := 6) rfl) (ap5.r (i := 5) rfl)
   replace k8 := k8.frame RI.lasts fr8 (ap5.r (i := 4) rfl) (Dj.nil _)
   replace h10 := h10.frame RI.lasts fr8 (ap5.r (i := 0) rfl) (Dj.nil _)
   replace h5 := h5.frame OTAlpha.lasts fr8 (ap5.r (i := 2) rfl) (ap5.r (i := 3) rfl)
   refine WT.inLoop (WT.mono (l' := [(2, .pointer (some ⟨b_2, 0, none⟩)), (3, .pointer (some ⟨b_3, 0, none⟩)), (6, .pointer (some ⟨b_5, 0, none⟩)), (11, pv0_0), (12, .int .i64 (p0.Rules.length : Int)), (13, .int .i64 s3), (18, v1), (19, .int .i64 (x1.Pats.length : Int)), (20, .int .i64 (IntKind.i64.wrap (s7 + 1)))]) (S' := St w0 Φ_10 [(b_5, .cells #[v10, u4] 43 (0, 0)), (b_3, .cells #[v6, u2] 27 (0, 0)), (b_2, .cells #[.slice none 0 0, .slice none 0 0] 27 (0, 0))] [ob v10, ob u4, D2, ob u2, D4, ob v6]) ⟨rfl, rfl, rfl, rfl, rfl, rfl, rfl, rfl, rfl, trivial⟩ (fun w1 hw => (hw.sel (js := [0, 3, 3, 3, 2, 1]) rfl).selO (js := [2, 0, 1]) rfl) ?_)
   exact ih2 (Φ_10, x3.2.Alphas, v6, D4, s5, u4, x5, v10, IntKind.i64.wrap (s7 + 1)) ⟨h, h5, k4, k8, h10, ph0_0, h1⟩
  replace h := ite_f h c2
  refine WT.exit rfl <| WT.region <| lq (q_fieldAddr Fld_27_1 rfl) rfl <| lq (q_load1 T1_25 rfl (fun w1 hw => hw.rgO (i := 1) rfl 1 1 [u2] rfl)) rfl <| lq (q_loadN Tn_43 rfl (fun w1 hw => hw.rgO (i := 0) rfl 0 2 [u5, u4] rfl) rfl) rfl ?_
  have rc3 : RC OTChain 2 Φ_2 ([(ob u5 ++ []) ++ ((ob u4 ++ []))] : List (List Nat)) [u5, u4] ([(⟨s6, s5⟩ : TChain)] : List TChain) := RC.cons (c := [u5, u4]) (cells := []) ⟨u5, u4, rfl, rfl, k9, k8⟩ rfl (RC.nil _ _ _)
  refine le' (e_lit (vs := [(0, .agg [u5, u4].toArray)]) (C := #[u5, u4]) OTChain.lasts Sl_25 Zr_43 rfl rfl rfl rfl (fill_made MC_43_1 (fill_cons (cells := [.slice none 0 0, .slice none 0 0]) (c := [u5, u4]) (C' := [u5, u4]) rfl rfl rfl rfl rfl (fill_nil))) rfl rc3 rfl (RC.kn OTChain.knows rc3)) rfl (fun v11 Φ_11 D9 q6 => ?_)
  obtain ⟨fr9, h11⟩ := q6
  replace h11 : OSl OTChain 43 2 Φ_11 ((ob u5 ++ []) ++ ((ob u4 ++ []))) v11 ([(⟨s6, s5⟩ : TChain)] : List TChain) := by simpa [List.append_assoc] using h11
  replace ph0_0 := ph0_0.frame RTRule.lasts fr9 (Dj.empty _)
  replace k7 := k7.frame OTAlpha.lasts fr9 (Dj.empty _) (Dj.empty _)
  replace k4 := k4.frame OTChain.lasts fr9 (Dj.empty _) (Dj.empty _)
  refine WL.conv (S' := St w0 Φ_11 [(b_5, .cells #[u5, u4] 43 (0, 0)), (b_3, .cells #[u3, u2] 27 (0, 0)), (b_2, .cells #[.slice none 0 0, .slice none 0 0] 27 (0, 0))] [((ob u5 ++ []) ++ ((ob u4 ++ []))), ob v11, D2, ob u2, D3, ob u3]) (fun w1 hw => hw.merge (js := [1, 1]) rfl (SP.eq (by simp [List.append_assoc, ob_nil]))) ?_
  obtain ⟨x6, hx6, h⟩ := bind_some h
  refine le' (e_appO OTChain.lasts OTChain.one Sl_25 Ei_43 rfl rfl rfl rfl rfl (js := [3]) (Rr := [((ob u5 ++ []) ++ ((ob u4 ++ []))), ob v11, D2, D3, ob u3]) rfl k4 h11 (fun ap => (ap.r (i := 2) rfl)) (fun ap => (ap.r (i := 0) rfl)) hx6) rfl (fun v12 Φ_12 D10 q7 => ?_)
  obtain ⟨⟨ap6, fr10⟩, h12⟩ := q7
  replace ph0_0 := ph0_0.frame RTRule.lasts fr10 (ap6.o pa0_0)
  replace k7 := k7.frame OTAlpha.lasts fr10 (ap6.r (i := 4) rfl) (ap6.r (i := 3) rfl)
  refine WL.conv (S' := St w0 Φ_12 [(b_5, .cells #[u5, u4] 43 (0, 0)), (b_3, .cells #[u3, u2] 27 (0, 0)), (b_2, .cells #[.slice none 0 0, .slice none 0 0] 27 (0, 0))] [(D2 ++ ((ob u5 ++ []) ++ ((ob u4 ++ [])))), ob v12, ob v11, D3, ob u3]) (fun w1 hw => hw.merge (js := [3, 1]) rfl (SP.eq (by simp))) <| lq (q_fieldAddr Fld_27_1 rfl) rfl <| ls (s_store (i := 1) (vs := [v12]) (C' := [u3, v12]) (O' := [(b_5, .cells #[u5, u4] 43 (0, 0)), (b_3, .cells #[u3, v12] 27 (0, 0)), (b_2, .cells #[.slice none 0 0, .slice none 0 0] 27 (0, 0))]) Sz_25 rfl rfl rfl (one_cells h12.one) rfl rfl ⟨h12.one, trivial⟩ rfl rfl) rfl ?_
  refine WL.nil <| WT.inBlock <| WT.region <| lq (q_add rfl rfl) rfl <| lq (q_move rfl) rfl <| WL.nil ?_
  refine WT.inLoop (WT.mono (l' := [(2, .pointer (some ⟨b_2, 0, none⟩)), (3, .pointer (some ⟨b_3, 0, none⟩)), (11, pv0_0), (12, .int .i64 (p0.Rules.length : Int)), (13, .int .i64 (IntKind.i64.wrap (s3 + 1)))]) (S' := St w0 Φ_12 [(b_3, .cells #[u3, v12] 27 (0, 0)), (b_2, .cells #[.slice none 0 0, .slice none 0 0] 27 (0, 0))] [(D2 ++ ((ob u5 ++ []) ++ ((ob u4 ++ [])))), ob v12, D3, ob u3]) ⟨rfl, rfl, rfl, rfl, rfl, trivial⟩ (fun w1 hw => (hw.sel (js := [0, 0, 1, 1]) rfl).selO (js := [1, 1]) rfl) ?_)
  exact ih1 (Φ_12, s4, u3, D3, x6, v12, (D2 ++ ((ob u5 ++ []) ++ ((ob u4 ++ [])))), IntKind.i64.wrap (s3 + 1)) ⟨h, k7, h12, ph0_0⟩
 replace h := ite_f h c1
 refine WT.exit rfl <| sr <| lq (q_loadN Tn_27 rfl (fun w1 hw => hw.rgO (i := 0) rfl 0 2 [u1, u2] rfl) rfl) rfl <| ls (s_store (i := 1) (vs := [u1, u2]) (C' := [u1, u2]) (O' := [(b_3, .cells #[u1, u2] 27 (0, 0)), (b_2, .cells #[u1, u2] 27 (0, 0))]) Sz_27 rfl rfl rfl rfl rfl rfl ⟨k3.one, k4.one, trivial⟩ rfl rfl) rfl <| WL.nil ?_
 refine WT.ret Tryz.func50 (resOk.one (rv_cell Tn_27 rfl (fun w1 hw => hw.rgO (i := 1) rfl 0 2 [u1, u2] rfl) rfl)) (fun w1 hw => ?_)
 subst hb0
 cases h
 refine postG_of_St (js := [3, 2, 1, 0]) hw rfl ⟨u1, D1, u2, D2, rfl, rfl, k3, k4⟩
theorem m_sl_EqualFunc_Si_Alpha_Si_Alpha_i_Alpha_i_Alpha_ok {Φ : Hp} {w : World} (hΦ : In Φ w) (N : Nat) (p0 : (List TAlpha)) (p1 : (List TAlpha)) (p2 : TAlpha → TAlpha → Option (Bool)) {pv0 : Value} {pG0 : List Nat} {pv1 : Value} {pG1 : List Nat} {p2f : Nat} {p2fr : List Value} (ph0 : RSl RTAlpha 4 Φ pG0 pv0 p0) (ph1 : RSl RTAlpha 4 Φ pG1 pv1 p1) (p2hF : Fun Tryz.prog p2f = true) (p2h : ∀ {Φ' : Hp} {w' : World}, FrH [] Φ Φ' → In Φ' w' → ∀ (p2a0 : TAlpha) (p2a1 : TAlpha) {p2v0_0 : Value} {p2G0_0 : List Nat} {p2v0_1 : Value} {p2G0_1 : List Nat} {p2v1_0 : Value} {p2G1_0 : List Nat} {p2v1_1 : Value} {p2G1_1 : List Nat} (_ : RSl RTVal 3 Φ' p2G0_0 p2v0_0 p2a0.Consts) (_ : RSl (RI .i64) 1 Φ' p2G0_1 p2v0_1 p2a0.At) (_ : RSl RTVal 3 Φ' p2G1_0 p2v1_0 p2a1.Consts) (_ : RSl (RI .i64) 1 Φ' p2G1_1 p2v1_1 p2a1.At) {r : Bool}, p2 p2a0 p2a1 = some r → Calls Tryz.prog p2f (([.agg [.string p2a0.Kind, .int .i64 p2a0.N, p2v0_0, p2v0_1].toArray, .agg [.string p2a1.Kind, .int .i64 p2a1.N, p2v1_0, p2v1_1].toArray] : List Value) ++ p2fr).toArray w' (Post (.bool r) w')) {r : Bool} (h : m_sl_EqualFunc_Si_Alpha_Si_Alpha_i_Alpha_i_Alpha N p0 p1 p2 = some r) :
  Calls Tryz.prog 51 [pv0, pv1, .func (.func p2f) #[] p2fr.toArray].toArray w (Post (.bool r) w) := by
 refine enter Tryz.func51 rfl Tryz.ntmps51 rfl (St.start0 hΦ) ?_
 generalize hb0 : (⟨w, [], Φ⟩ : Base) = w0
 unfold m_sl_EqualFunc_Si_Alpha_Si_Alpha_i_Alpha_i_Alpha at h
 refine sr <| lq (q_assign rfl) rfl <| WL.nil <| WT.seq <| sr <| lq (q_move rfl) rfl <| lq (q_lenR Sl_24 rfl rfl ph0) rfl <| lq (q_move rfl) rfl <| lq (q_lenR Sl_24 rfl rfl ph1) rfl <| lq (q_neq rfl rfl) rfl <| WL.nil ?_
 refine WT.cond rfl (fun c1 => ?_) (fun c1 => ?_)
 ·replace h := ite_t h c1
  refine sr <| lq (q_assign rfl) rfl <| WL.nil ?_
  refine WT.ret Tryz.func51 (resOk.one rfl) (fun w1 hw => ?_)
  subst hb0
  cases h
  exact post_of_St hw
 replace h := ite_f h c1
 refine WT.skip <| WT.seq <| sr <| lq (q_move rfl) rfl <| lq (q_lenR Sl_24 rfl rfl ph0) rfl <| lq (q_move rfl) rfl <| WL.nil <| WT.block <| WT.loop <| WT.mono (l' := [(1, pv1), (2, .func (.func p2f) #[] p2fr.toArray), (15, pv0), (16, .int .i64 (p0.length : Int)), (17, .int .i64 0)]) (S' := St w0 Φ [] []) ⟨rfl, rfl, rfl, rfl, rfl, trivial⟩ (fun w1 hw => (hw.sel (js := []) rfl).selO (js := []) rfl) ?_
 refine loop_ind (σ := Int) (fun s => [(1, pv1), (2, .func (.func p2f) #[] p2fr.toArray), (15, pv0), (16, .int .i64 (p0.length : Int)), (17, .int .i64 s)]) (fun s => St w0 Φ [] []) (fun m s => m_sl_EqualFunc_Si_Alpha_Si_Alpha_i_Alpha_i_Alpha_l1 N p0 p1 p2 m s = some r) (fun s hm => none_ne (show (none : Option (Bool)) = some r from hm)) (fun n1 ih1 s hm => ?_) N (0) h
 revert hm; revert s; intro s1 hm
 have h : m_sl_EqualFunc_Si_Alpha_Si_Alpha_i_Alpha_i_Alpha_l1 N p0 p1 p2 (n1 + 1) s1 = some r := hm
 show WT _ _ [(1, pv1), (2, .func (.func p2f) #[] p2fr.toArray), (15, pv0), (16, .int .i64 (p0.length : Int)), (17, .int .i64 s1)] (St w0 Φ [] [])
 unfold m_sl_EqualFunc_Si_Alpha_Si_Alpha_i_Alpha_i_Alpha_l1 at h
 refine sr <| lq (q_lss rfl rfl) rfl <| WL.nil <| WT.seq ?_
 refine WT.cond rfl (fun c2 => ?_) (fun c2 => ?_)
 ·replace h := ite_t h c2
  refine WT.skip <| WT.seq <| WT.block <| sr <| lq (q_move rfl) rfl ?_
  obtain ⟨x1, hx1, h⟩ := bind_some h
  obtain ⟨cs1, F1, -, g1, hb1, hs1, r1⟩ := ph0.el (idx_some hx1).2.2
  obtain ⟨v1, G1, v2, G2, rfl, rfl, h1, h2⟩ := r1
  refine lq (q_indexAddr Sl_24 rfl rfl ph0 hx1) rfl <| lq (q_loadN Tn_102 rfl (fun w1 hw => (g1.of_eq 0 4 rfl rfl : rg _ _ _ [.string x1.Kind, .int .i64 x1.N, v1, v2]).rangeAt hw.fro) rfl) rfl ?_
  refine ln (n_alloc (C := #[.string eS, .int .i64 0, .slice none 0 0, .slice none 0 0]) Zr_102 rfl) rfl (fun b_1 => ?_)
  refine lq (q_assign rfl) rfl <| ls (s_store (i := 0) (vs := [.string x1.Kind, .int .i64 x1.N, v1, v2]) (C' := [.string x1.Kind, .int .i64 x1.N, v1, v2]) (O' := [(b_1, .cells #[.string x1.Kind, .int .i64 x1.N, v1, v2] 102 (0, 0))]) Sz_102 rfl rfl rfl rfl rfl rfl ⟨rfl, rfl, h1.one, h2.one, trivial⟩ rfl rfl) rfl <| WL.nil <| sr <| lq (q_move rfl) rfl <| lq (q_move rfl) rfl ?_
  obtain ⟨x2, hx2, h⟩ := bind_some h
  obtain ⟨cs2, F2, -, g2, hb2, hs2, r2⟩ := ph1.el (idx_some hx2).2.2
  obtain ⟨v3, G3, v4, G4, rfl, rfl, h3, h4⟩ := r2
  refine lq (q_indexAddr Sl_24 rfl rfl ph1 hx2) rfl <| lq (q_loadN Tn_102 rfl (fun w1 hw => (g2.of_eq 0 4 rfl rfl : rg _ _ _ [.string x2.Kind, .int .i64 x2.N, v3, v4]).rangeAt hw.fro) rfl) rfl ?_
  refine ln (n_alloc (C := #[.string eS, .int .i64 0, .slice none 0 0, .slice none 0 0]) Zr_102 rfl) rfl (fun b_2 => ?_)
  refine ls (s_store (i := 0) (vs := [.string x2.Kind, .int .i64 x2.N, v3, v4]) (C' := [.string x2.Kind, .int .i64 x2.N, v3, v4]) (O' := [(b_2, .cells #[.string x2.Kind, .int .i64 x2.N, v3, v4] 102 (0, 0)), (b_1, .cells #[.string x1.Kind, .int .i64 x1.N, v1, v2] 102 (0, 0))]) Sz_102 rfl rfl rfl rfl rfl rfl ⟨rfl, rfl, h3.one, h4.one, trivial⟩ rfl rfl) rfl <| WL.nil <| sr <| lq (q_move rfl) rfl <| lq (q_loadN Tn_102 rfl (fun w1 hw => hw.rgO (i := 1) rfl 0 4 [.string x1.Kind, .int .i64 x1.N, v1, v2] rfl) rfl) rfl ?_
  refine lq (q_loadN Tn_102 rfl (fun w1 hw => hw.rgO (i := 0) rfl 0 4 [.string x2.Kind, .int .i64 x2.N, v3, v4] rfl) rfl) rfl ?_
  obtain ⟨x3, hx3, h⟩ := bind_some h
  refine lp (p_callV p2hF rfl rfl (fun w1 hw => p2h (by subst hb0; exact hw.frB hΦ) hw.fro x1 x2 h1 h2 h3 h4 hx3)) rfl <| lq (q_not rfl) rfl <| WL.nil ?_
  refine WT.cond rfl (fun c3 => ?_) (fun c3 => ?_)
  ·replace h := ite_t h c3
   refine sr <| lq (q_assign rfl) rfl <| WL.nil ?_
   refine WT.ret Tryz.func51 (resOk.one rfl) (fun w1 hw => ?_)
   subst hb0
   cases h
   exact post_of_St hw
  replace h := ite_f h c3
  refine WT.skip <| WT.inBlock <| WT.region <| lq (q_add rfl rfl) rfl <| lq (q_move rfl) rfl <| WL.nil ?_
  refine WT.inLoop (WT.mono (l' := [(1, pv1), (2, .func (.func p2f) #[] p2fr.toArray), (15, pv0), (16, .int .i64 (p0.length : Int)), (17, .int .i64 (IntKind.i64.wrap (s1 + 1)))]) (S' := St w0 Φ [] []) ⟨rfl, rfl, rfl, rfl, rfl, trivial⟩ (fun w1 hw => (hw.sel (js := []) rfl).selO (js := []) rfl) ?_)
  exact ih1 (IntKind.i64.wrap (s1 + 1)) h
 replace h := ite_f h c2
 refine WT.exit rfl <| sr <| lq (q_assign rfl) rfl <| WL.nil ?_
 refine WT.ret Tryz.func51 (resOk.one rfl) (fun w1 hw => ?_)
 subst hb0
 cases h
 exact post_of_St hw
theorem m_sl_EqualFunc_Si_Chain_Si_Chain_i_Chain_i_Chain_ok {Φ : Hp} {w : World} (hΦ : In Φ w) (N : Nat) (p0 : (List TChain)) (p1 : (List TChain)) (p2 : TChain → TChain → Option (Bool)) {pv0 : Value} {pG0 : List Nat} {pv1 : Value} {pG1 : List Nat} {p2f : Nat} {p2fr : List Value} (ph0 : RSl RTChain 2 Φ pG0 pv0 p0) (ph1 : RSl RTChain 2 Φ pG1 pv1 p1) (p2hF : Fun Tryz.prog p2f = true) (p2h : ∀ {Φ' : Hp} {w' : World}, FrH [] Φ Φ' → In Φ' w' → ∀ (p2a0 : TChain) (p2a1 : TChain) {p2v0_0 : Value} {p2G0_0 : List Nat} {p2v0_1 : Value} {p2G0_1 : List Nat} {p2v1_0 : Value} {p2G1_0 : List Nat} {p2v1_1 : Value} {p2G1_1 : List Nat} (_ : RSl (RI .i64) 1 Φ' p2G0_0 p2v0_0 p2a0.Pos) (_ : RSl (RI .i64) 1 Φ' p2G0_1 p2v0_1 p2a0.Neg) (_ : RSl (RI .i64) 1 Φ' p2G1_0 p2v1_0 p2a1.Pos) (_ : RSl (RI .i64) 1 Φ' p2G1_1 p2v1_1 p2a1.Neg) {r : Bool}, p2 p2a0 p2a1 = some r → Calls Tryz.prog p2f (([.agg [p2v0_0, p2v0_1].toArray, .agg [p2v1_0, p2v1_1].toArray] : List Value) ++ p2fr).toArray w' (Post (.bool r) w')) {r : Bool} (h : m_sl_EqualFunc_Si_Chain_Si_Chain_i_Chain_i_Chain N p0 p1 p2 = some r) :
  Calls Tryz.prog 53 [pv0, pv1, .func (.func p2f) #[] p2fr.toArray].toArray w (Post (.bool r) w) := by
 refine enter Tryz.func53 rfl Tryz.ntmps53 rfl (St.start0 hΦ) ?_
 generalize hb0 : (⟨w, [], Φ⟩ : Base) = w0
 unfold m_sl_EqualFunc_Si_Chain_Si_Chain_i_Chain_i_Chain at h
 refine sr <| lq (q_assign rfl) rfl <| WL.nil <| WT.seq <| sr <| lq (q_move rfl) rfl <| lq (q_lenR Sl_25 rfl rfl ph0) rfl <| lq (q_move rfl) rfl <| lq (q_lenR Sl_25 rfl rfl ph1) rfl <| lq (q_neq rfl rfl) rfl <| WL.nil ?_
 refine WT.cond rfl (fun c1 => ?_) (fun c1 => ?_)
 ·replace h := ite_t h c1
  refine sr <| lq (q_assign rfl) rfl <| WL.nil ?_
  refine WT.ret Tryz.func53 (resOk.one rfl) (fun w1 hw => ?_)
  subst hb0
  cases h
  exact post_of_St hw
 replace h := ite_f h c1
 refine WT.skip <| WT.seq <| sr <| lq (q_move rfl) rfl <| lq (q_lenR Sl_25 rfl rfl ph0) rfl <| lq (q_move rfl) rfl <| WL.nil <| WT.block <| WT.loop <| WT.mono (l' := [(1, pv1), (2, .func (.func p2f) #[] p2fr.toArray), (15, pv0), (16, .int .i64 (p0.length : Int)), (17, .int .i64 0)]) (S' := St w0 Φ [] []) ⟨rfl, rfl, rfl, rfl, rfl, trivial⟩ (fun w1 hw => (hw.sel (js := []) rfl).selO (js := []) rfl) ?_
 refine loop_ind (σ := Int) (fun s => [(1, pv1), (2, .func (.func p2f) #[] p2fr.toArray), (15, pv0), (16, .int .i64 (p0.length : Int)), (17, .int .i64 s)]) (fun s => St w0 Φ [] []) (fun m s => m_sl_EqualFunc_Si_Chain_Si_Chain_i_Chain_i_Chain_l1 N p0 p1 p2 m s = some r) (fun s hm => none_ne (show (none : Option (Bool)) = some r from hm)) (fun n1 ih1 s hm => ?_) N (0) h
 revert hm; revert s; intro s1 hm
 have h : m_sl_EqualFunc_Si_Chain_Si_Chain_i_Chain_i_Chain_l1 N p0 p1 p2 (n1 + 1) s1 = some r := hm
 show WT _ _ [(1, pv1), (2, .func (.func p2f) #[] p2fr.toArray), (15, pv0), (16, .int .i64 (p0.length : Int)), (17, .int .i64 s1)] (St w0 Φ [] [])
 unfold m_sl_EqualFunc_Si_Chain_Si_Chain_i_Chain_i_Chain_l1 at h
 refine sr <| lq (q_lss rfl rfl) rfl <| WL.nil <| WT.seq ?_
 refine WT.cond rfl (fun c2 => ?_) (fun c2 => ?_)
 ·replace h := ite_t h c2
  refine WT.skip <| WT.seq <| WT.block <| sr <| lq (q_move rfl) rfl ?_
  obtain ⟨x1, hx1, h⟩ := bind_some h
  obtain ⟨cs1, F1, -, g1, hb1, hs1, r1⟩ := ph0.el (idx_some hx1).2.2
  obtain ⟨v1, G1, v2, G2, rfl, rfl, h1, h2⟩ := r1
  refine lq (q_indexAddr Sl_25 rfl rfl ph0 hx1) rfl <| lq (q_loadN Tn_43 rfl (fun w1 hw => (g1.of_eq 0 2 rfl rfl : rg _ _ _ [v1, v2]).rangeAt hw.fro) rfl) rfl ?_
  refine ln (n_alloc (C := #[.slice none 0 0, .slice none 0 0]) Zr_43 rfl) rfl (fun b_1 => ?_)
  refine lq (q_assign rfl) rfl <| ls (s_store (i := 0) (vs := [v1, v2]) (C' := [v1, v2]) (O' := [(b_1, .cells #[v1, v2] 43 (0, 0))]) Sz_43 rfl rfl rfl rfl rfl rfl ⟨h1.one, h2.one, trivial⟩ rfl rfl) rfl <| WL.nil <| sr <| lq (q_move rfl) rfl <| lq (q_move rfl) rfl ?_
  obtain ⟨x2, hx2, h⟩ := bind_some h
  obtain ⟨cs2, F2, -, g2, hb2, hs2, r2⟩ := ph1.el (idx_some hx2).2.2
  obtain ⟨v3, G3, v4, G4, rfl, rfl, h3, h4⟩ := r2
  refine lq (q_indexAddr Sl_25 rfl rfl ph1 hx2) rfl <| lq (q_loadN Tn_43 rfl (fun w1 hw => (g2.of_eq 0 2 rfl rfl : rg _ _ _ [v3, v4]).rangeAt hw.fro) rfl) rfl ?_
  refine ln (n_alloc (C := #[.slice none 0 0, .slice none 0 0]) Zr_43 rfl) rfl (fun b_2 => ?_)
  refine ls (s_store (i := 0) (vs := [v3, v4]) (C' := [v3, v4]) (O' := [(b_2, .cells #[v3, v4] 43 (0, 0)), (b_1, .cells #[v1, v2] 43 (0, 0))]) Sz_43 rfl rfl rfl rfl rfl rfl ⟨h3.one, h4.one, trivial⟩ rfl rfl) rfl <| WL.nil <| sr <| lq (q_move rfl) rfl <| lq (q_loadN Tn_43 rfl (fun w1 hw => hw.rgO (i := 1) rfl 0 2 [v1, v2] rfl) rfl) rfl <| lq (q_loadN Tn_43 rfl (fun w1 hw => hw.rgO (i := 0) rfl 0 2 [v3, v4] rfl) rfl) rfl ?_
  obtain ⟨x3, hx3, h⟩ := bind_some h
  refine lp (p_callV p2hF rfl rfl (fun w1 hw => p2h (by subst hb0; exact hw.frB hΦ) hw.fro x1 x2 h1 h2 h3 h4 hx3)) rfl <| lq (q_not rfl) rfl <| WL.nil ?_
  refine WT.cond rfl (fun c3 => ?_) (fun c3 => ?_)
  ·replace h := ite_t h c3
   refine sr <| lq (q_assign rfl) rfl <| WL.nil ?_
   refine WT.ret Tryz.func53 (resOk.one rfl) (fun w1 hw => ?_)
   subst hb0
   cases h
   exact post_of_St hw
  replace h := ite_f h c3
  refine WT.skip <| WT.inBlock <| WT.region <| lq (q_add rfl rfl) rfl <| lq (q_move rfl) rfl <| WL.nil ?_
  refine WT.inLoop (WT.mono (l' := [(1, pv1), (2, .func (.func p2f) #[] p2fr.toArray), (15, pv0), (16, .int .i64 (p0.length : Int)), (17, .int .i64 (IntKind.i64.wrap (s1 + 1)))]) (S' := St w0 Φ [] []) ⟨rfl, rfl, rfl, rfl, rfl, trivial⟩ (fun w1 hw => (hw.sel (js := []) rfl).selO (js := []) rfl) ?_)
  exact ih1 (IntKind.i64.wrap (s1 + 1)) h
 replace h := ite_f h c2
 refine WT.exit rfl <| sr <| lq (q_assign rfl) rfl <| WL.nil ?_
 refine WT.ret Tryz.func53 (resOk.one rfl) (fun w1 hw => ?_)
 subst hb0
 cases h
 exact post_of_St hw
theorem m_i_sameChain_ok {Φ : Hp} {w : World} (hΦ : In Φ w) (N : Nat) (p0 : TChain) (p1 : TChain) {pv0_0 : Value} {pG0_0 : List Nat} {pv0_1 : Value} {pG0_1 : List Nat} {pv1_0 : Value} {pG1_0 : List Nat} {pv1_1 : Value} {pG1_1 : List Nat} (ph0_0 : RSl (RI .i64) 1 Φ pG0_0 pv0_0 p0.Pos) (ph0_1 : RSl (RI .i64) 1 Φ pG0_1 pv0_1 p0.Neg) (ph1_0 : RSl (RI .i64) 1 Φ pG1_0 pv1_0 p1.Pos) (ph1_1 : RSl (RI .i64) 1 Φ pG1_1 pv1_1 p1.Neg) {r : Bool} (h : m_i_sameChain N p0 p1 = some r) :
  Calls Tryz.prog 54 [.agg [pv0_0, pv0_1].toArray, .agg [pv1_0, pv1_1].toArray].toArray w (Post (.bool r) w) := by
 refine enter Tryz.func54 rfl Tryz.ntmps54 rfl (St.start0 hΦ) ?_
 unfold m_i_sameChain at h
 refine WT.seq <| WT.region ?_
 refine ln (n_box (C := #[pv0_0, pv0_1]) rfl rfl) rfl (fun b_1 => ?_)
 refine ln (n_box (C := #[pv1_0, pv1_1]) rfl rfl) rfl (fun b_2 => ?_)
 refine lq (q_assign rfl) rfl <| WL.nil <| sr <| lq (q_fieldAddr Fld_43_0 rfl) rfl <| lq (q_load1 T1_41 rfl (fun w1 hw => hw.rgO (i := 1) rfl 0 1 [pv0_0] rfl)) rfl <| lq (q_fieldAddr Fld_43_0 rfl) rfl <| lq (q_load1 T1_41 rfl (fun w1 hw => hw.rgO (i := 0) rfl 0 1 [pv1_0] rfl)) rfl ?_
 obtain ⟨x1, hx1, h⟩ := bind_some h
 refine lp (p_call Fun_110 rfl (fun w1 hw => m_sl_Equal_Sint_int_ok hw.fro N p0.Pos p1.Pos ph0_0 ph1_0 hx1)) rfl <| lq (q_move rfl) rfl ?_
 obtain ⟨b1, hb_1, h⟩ := bind_some h
 refine WL.cutN 6 [(16, .bool b1), (4, .bool false)] ?_ (fun K => ?_)
 rotate_left
 ·refine WL.split (d := 10) rfl (fun c1 => ?_) (fun c1 => ?_)
  ·replace hb_1 := ite_t hb_1 c1
   refine WL.yes rfl rfl <| lq (q_fieldAddr Fld_43_1 rfl) rfl <| WL.yes rfl rfl <| lq (q_load1 T1_41 rfl (fun w1 hw => hw.rgO (i := 1) rfl 1 1 [pv0_1] rfl)) rfl <| WL.yes rfl rfl <| lq (q_fieldAddr Fld_43_1 rfl) rfl <| WL.yes rfl rfl <| lq (q_load1 T1_41 rfl (fun w1 hw => hw.rgO (i := 0) rfl 1 1 [pv1_1] rfl)) rfl <| WL.yes rfl rfl ?_
   obtain ⟨x2, hx2, hb_1⟩ := bind_some hb_1
   refine lp (p_call Fun_110 rfl (fun w1 hw => m_sl_Equal_Sint_int_ok hw.fro N p0.Neg p1.Neg ph0_1 ph1_1 hx2)) rfl <| WL.q (q_pick1 rfl rfl) rfl rfl rfl ?_
   cases hb_1
   exact WL.keep (by exact ⟨rfl, rfl, trivial⟩) K
  ·replace hb_1 := ite_f hb_1 c1
   refine WL.no rfl rfl rfl rfl <| WL.no rfl rfl rfl rfl <| WL.no rfl rfl rfl rfl <| WL.no rfl rfl rfl rfl <| WL.no rfl rfl rfl rfl <| WL.q (q_pick0 rfl rfl) rfl rfl rfl ?_
   cases hb_1
   exact WL.keep (by exact ⟨rfl, rfl, trivial⟩) K
 refine lq (q_assign rfl) rfl <| WL.nil ?_
 refine WT.ret Tryz.func54 (resOk.one rfl) (fun w1 hw => ?_)
 cases h
 exact post_of_St hw
theorem m_i_NetOk_ok {Φ : Hp} {w : World} (hΦ : In Φ w) (N : Nat) (p0 : TNet) (p1 : TDef) {pv0_0 : Value} {pG0_0 : List Nat} {pv0_1 : Value} {pG0_1 : List Nat} {pv1_0 : Value} {pG1_0 : List Nat} (ph0_0 : RSl RTAlpha 4 Φ pG0_0 pv0_0 p0.Alphas) (ph0_1 : RSl RTChain 2 Φ pG0_1 pv0_1 p0.Chains) (ph1_0 : RSl RTRule 5 Φ pG1_0 pv1_0 p1.Rules) {r : Bool} (h : m_i_NetOk N p0 p1 = some r) :
  Calls Tryz.prog 13 [.agg [pv0_0, pv0_1].toArray, .agg [.string p1.Name, pv1_0].toArray].toArray w (Post (.bool r) w) := by
 refine enter Tryz.func13 rfl Tryz.ntmps13 rfl (St.start0 hΦ) ?_
 have pa0_0 : Old ⟨w, [], Φ⟩ pG0_0 := Old.mk hΦ ph0_0.kn (Dj.empty _)
 have pa0_1 : Old ⟨w, [], Φ⟩ pG0_1 := Old.mk hΦ ph0_1.kn (Dj.empty _)
 unfold m_i_NetOk at h
 refine WT.seq <| WT.region ?_
 refine ln (n_box (C := #[pv0_0, pv0_1]) rfl rfl) rfl (fun b_1 => ?_)
 refine ln (n_box (C := #[.string p1.Name, pv1_0]) rfl rfl) rfl (fun b_2 => ?_)
 refine lq (q_assign rfl) rfl <| WL.nil <| WT.seq <| sr <| lq (q_loadN Tn_30 rfl (fun w1 hw => hw.rgO (i := 0) rfl 0 2 [.string p1.Name, pv1_0] rfl) rfl) rfl ?_
 obtain ⟨x1, hx1, h⟩ := bind_some h
 refine lp (p_call Fun_49 rfl (fun w1 hw => m_i_DefOk_ok hw.fro N p1 ph1_0 hx1)) rfl <| lq (q_not rfl) rfl <| WL.nil ?_
 refine WT.cond rfl (fun c1 => ?_) (fun c1 => ?_)
 ·replace h := ite_t h c1
  refine sr <| lq (q_assign rfl) rfl <| WL.nil ?_
  refine WT.ret Tryz.func13 (resOk.one rfl) (fun w1 hw => ?_)
  cases h
  exact post_of_St hw
 replace h := ite_f h c1
 refine WT.skip <| sr <| lq (q_loadN Tn_30 rfl (fun w1 hw => hw.rgO (i := 0) rfl 0 2 [.string p1.Name, pv1_0] rfl) rfl) rfl ?_
 obtain ⟨x2, hx2, h⟩ := bind_some h
 refine lc (k_call (js := []) (R := []) Fun_50 rfl rfl (fun w1 hw ap hl => m_i_netIn_ok hw.fro N p1 ph1_0  hx2)) rfl (fun v1 Φ_1 F1 q1 => ?_)
 obtain ⟨ap1, fr1, v2, D1, v3, D2, rfl, rfl, h1, h2⟩ := q1
 replace ph0_0 := ph0_0.frame RTAlpha.lasts fr1 (ap1.o pa0_0)
 replace ph0_1 := ph0_1.frame RTChain.lasts fr1 (ap1.o pa0_1)
 refine ln (n_alloc (C := #[.slice none 0 0, .slice none 0 0]) Zr_27 rfl) rfl (fun b_3 => ?_)
 refine ls (s_store (i := 0) (vs := [v2, v3]) (C' := [v2, v3]) (O' := [(b_3, .cells #[v2, v3] 27 (0, 0)), (b_2, .cells #[.string p1.Name, pv1_0] 30 (0, 0)), (b_1, .cells #[pv0_0, pv0_1] 27 (0, 0))]) Sz_27 rfl rfl rfl rfl rfl rfl ⟨h1.one, h2.one, trivial⟩ rfl rfl) rfl <| WL.nil <| sr <| lq (q_fieldAddr Fld_27_0 rfl) rfl <| lq (q_load1 T1_24 rfl (fun w1 hw => hw.rgO (i := 2) rfl 0 1 [pv0_0] rfl)) rfl <| lq (q_fieldAddr Fld_27_0 rfl) rfl ?_
 refine lq (q_load1 T1_24 rfl (fun w1 hw => hw.rgO (i := 0) rfl 0 1 [v2] rfl)) rfl ?_
 obtain ⟨x3, hx3, h⟩ := bind_some h
 refine lp (p_call Fun_51 rfl (fun w1 hw => m_sl_EqualFunc_Si_Alpha_Si_Alpha_i_Alpha_i_Alpha_ok hw.fro N p0.Alphas x2.Alphas (m_i_SameAlpha N) ph0_0 (h1.rslG OTAlpha.gives) Fun_52 (fun hle' hin a0 a1 => fun f0 f1 f2 f3 => fun hr => m_i_SameAlpha_ok hin N a0 a1 f0 f1 f2 f3 hr) hx3)) rfl <| lq (q_move rfl) rfl ?_
 obtain ⟨b1, hb_1, h⟩ := bind_some h
 refine WL.cutN 6 [(22, .bool b1)] ?_ (fun K => ?_)
 rotate_left
 ·refine WL.split (d := 16) rfl (fun c2 => ?_) (fun c2 => ?_)
  ·replace hb_1 := ite_t hb_1 c2
   refine WL.yes rfl rfl <| lq (q_fieldAddr Fld_27_1 rfl) rfl <| WL.yes rfl rfl <| lq (q_load1 T1_25 rfl (fun w1 hw => hw.rgO (i := 2) rfl 1 1 [pv0_1] rfl)) rfl <| WL.yes rfl rfl <| lq (q_fieldAddr Fld_27_1 rfl) rfl <| WL.yes rfl rfl <| lq (q_load1 T1_25 rfl (fun w1 hw => hw.rgO (i := 0) rfl 1 1 [v3] rfl)) rfl <| WL.yes rfl rfl ?_
   obtain ⟨x4, hx4, hb_1⟩ := bind_some hb_1
   refine lp (p_call Fun_53 rfl (fun w1 hw => m_sl_EqualFunc_Si_Chain_Si_Chain_i_Chain_i_Chain_ok hw.fro N p0.Chains x2.Chains (m_i_sameChain N) ph0_1 (h2.rslG OTChain.gives) Fun_54 (fun hle' hin a0 a1 => fun f0 f1 f2 f3 => fun hr => m_i_sameChain_ok hin N a0 a1 f0 f1 f2 f3 hr) hx4)) rfl <| WL.q (q_pick1 rfl rfl) rfl rfl rfl ?_
   cases hb_1
   exact WL.keep (by exact ⟨rfl, trivial⟩) K
  ·replace hb_1 := ite_f hb_1 c2
   refine WL.no rfl rfl rfl rfl <| WL.no rfl rfl rfl rfl <| WL.no rfl rfl rfl rfl <| WL.no rfl rfl rfl rfl <| WL.no rfl rfl rfl rfl <| WL.q (q_pick0 rfl rfl) rfl rfl rfl ?_
   cases hb_1
   exact WL.keep (by exact ⟨rfl, trivial⟩) K
 refine lq (q_assign rfl) rfl <| WL.nil ?_
 refine WT.ret Tryz.func13 (resOk.one rfl) (fun w1 hw => ?_)
 cases h
 exact post_of_St hw
theorem m_s_l1In_ok {Φ : Hp} {w : World} (hΦ : In Φ w) (N : Nat) (p0 : Int) (p1 : Int) (p2 : Int)   {r : Bool} (h : m_s_l1In N p0 p1 p2 = some r) :
  Calls Tryz.prog 85 [.int .i64 p0, .int .i64 p1, .int .i64 p2].toArray w (Post (.bool r) w) := by
 refine enter Tryz.func85 rfl Tryz.ntmps85 rfl (St.start0 hΦ) ?_
 unfold m_s_l1In at h
 refine sr <| lq (q_assign rfl) rfl <| WL.nil <| sr <| lq (q_move rfl) rfl <| lq (q_move rfl) rfl <| lq (q_geq rfl rfl) rfl <| lq (q_move rfl) rfl ?_
 obtain ⟨b1, hb_1, h⟩ := bind_some h
 refine WL.cutN 4 [(14, .bool b1), (6, .bool false)] ?_ (fun K => ?_)
 rotate_left
 ·refine WL.split (d := 10) rfl (fun c1 => ?_) (fun c1 => ?_)
  ·replace hb_1 := ite_t hb_1 c1
   refine WL.yes rfl rfl <| lq (q_move rfl) rfl <| WL.yes rfl rfl <| lq (q_move rfl) rfl <| WL.yes rfl rfl <| lq (q_leq rfl rfl) rfl <| WL.q (q_pick1 rfl rfl) rfl rfl rfl ?_
   cases hb_1
   exact WL.keep (by exact ⟨rfl, rfl, trivial⟩) K
  ·replace hb_1 := ite_f hb_1 c1
   refine WL.no rfl rfl rfl rfl <| WL.no rfl rfl rfl rfl <| WL.no rfl rfl rfl rfl <| WL.q (q_pick0 rfl rfl) rfl rfl rfl ?_
   cases hb_1
   exact WL.keep (by exact ⟨rfl, rfl, trivial⟩) K
 refine lq (q_assign rfl) rfl <| WL.nil ?_
 refine WT.ret Tryz.func85 (resOk.one rfl) (fun w1 hw => ?_)
 cases h
 exact post_of_St hw
theorem m_s_l1Letter_ok {Φ : Hp} {w : World} (hΦ : In Φ w) (N : Nat) (p0 : Int)   {r : Bool} (h : m_s_l1Letter N p0 = some r) :
  Calls Tryz.prog 150 [.int .u8 p0].toArray w (Post (.bool r) w) := by
 refine enter Tryz.func150 rfl Tryz.ntmps150 rfl (St.start0 hΦ) ?_
 unfold m_s_l1Letter at h
 refine sr <| lq (q_assign rfl) rfl <| WL.nil <| sr <| lq (q_move rfl) rfl <| lq (q_convI Ik_5 Ik_3 rfl) rfl ?_
 obtain ⟨x1, hx1, h⟩ := bind_some h
 refine lp (p_call Fun_85 rfl (fun w1 hw => m_s_l1In_ok hw.fro N (IntKind.i64.wrap p0) 97 122 hx1)) rfl <| lq (q_move rfl) rfl ?_
 obtain ⟨b1, hb_1, h⟩ := bind_some h
 refine WL.cutN 4 [(10, .bool b1), (0, .int .u8 p0), (2, .bool false)] ?_ (fun K => ?_)
 rotate_left
 ·refine WL.split (d := 6) rfl (fun c1 => ?_) (fun c1 => ?_)
  ·replace hb_1 := ite_t hb_1 c1
   refine WL.no rfl rfl rfl rfl <| WL.no rfl rfl rfl rfl <| WL.no rfl rfl rfl rfl <| WL.q (q_pick1 rfl rfl) rfl rfl rfl ?_
   cases hb_1
   exact WL.keep (by exact ⟨rfl, rfl, rfl, trivial⟩) K
  ·replace hb_1 := ite_f hb_1 c1
   refine WL.yes rfl rfl <| lq (q_move rfl) rfl <| WL.yes rfl rfl <| lq (q_convI Ik_5 Ik_3 rfl) rfl <| WL.yes rfl rfl ?_
   obtain ⟨x2, hx2, hb_1⟩ := bind_some hb_1
   refine lp (p_call Fun_85 rfl (fun w1 hw => m_s_l1In_ok hw.fro N (IntKind.i64.wrap p0) 48 57 hx2)) rfl <| WL.q (q_pick0 rfl rfl) rfl rfl rfl ?_
   cases hb_1
   exact WL.keep (by exact ⟨rfl, rfl, rfl, trivial⟩) K
 refine lq (q_move rfl) rfl ?_
 obtain ⟨b2, hb_2, h⟩ := bind_some h
 refine WL.cutN 3 [(14, .bool b2), (2, .bool false)] ?_ (fun K => ?_)
 rotate_left
 ·refine WL.split (d := 11) rfl (fun c2 => ?_) (fun c2 => ?_)
  ·replace hb_2 := ite_t hb_2 c2
   refine WL.no rfl rfl rfl rfl <| WL.no rfl rfl rfl rfl <| WL.q (q_pick1 rfl rfl) rfl rfl rfl ?_
   cases hb_2
   exact WL.keep (by exact ⟨rfl, rfl, trivial⟩) K
  ·replace hb_2 := ite_f hb_2 c2
   refine WL.yes rfl rfl <| lq (q_move rfl) rfl <| WL.yes rfl rfl <| lq (q_eql rfl rfl) rfl <| WL.q (q_pick0 rfl rfl) rfl rfl rfl ?_
   cases hb_2
   exact WL.keep (by exact ⟨rfl, rfl, trivial⟩) K
 refine lq (q_assign rfl) rfl <| WL.nil ?_
 refine WT.ret Tryz.func150 (resOk.one rfl) (fun w1 hw => ?_)
 cases h
 exact post_of_St hw
theorem m_s_NameOk_ok {Φ : Hp} {w : World} (hΦ : In Φ w) (N : Nat) (p0 : ByteArray)   {r : Bool} (h : m_s_NameOk N p0 = some r) :
  Calls Tryz.prog 84 [.string p0].toArray w (Post (.bool r) w) := by
 refine enter Tryz.func84 rfl Tryz.ntmps84 rfl (St.start0 hΦ) ?_
 generalize hb0 : (⟨w, [], Φ⟩ : Base) = w0
 unfold m_s_NameOk at h
 refine sr <| lq (q_assign rfl) rfl <| WL.nil <| WT.seq <| sr <| lq (q_assign rfl) rfl <| WL.nil <| WT.block <| WT.loop <| WT.mono (l' := [(0, .string p0), (3, .int .i64 0)]) (S' := St w0 Φ [] []) ⟨rfl, rfl, trivial⟩ (fun w1 hw => (hw.sel (js := []) rfl).selO (js := []) rfl) ?_
 refine loop_ind (σ := Int) (fun s => [(0, .string p0), (3, .int .i64 s)]) (fun s => St w0 Φ [] []) (fun m s => m_s_NameOk_l1 N p0 m s = some r) (fun s hm => none_ne (show (none : Option (Bool)) = some r from hm)) (fun n1 ih1 s hm => ?_) N (0) h
 revert hm; revert s; intro s1 hm
 have h : m_s_NameOk_l1 N p0 (n1 + 1) s1 = some r := hm
 show WT _ _ [(0, .string p0), (3, .int .i64 s1)] (St w0 Φ [] [])
 unfold m_s_NameOk_l1 at h
 refine WT.seq <| sr <| lq (q_move rfl) rfl <| lq (q_move rfl) rfl <| lq (q_lenS Str_9 rfl rfl) rfl <| lq (q_lss rfl rfl) rfl <| WL.nil ?_
 refine WT.cond rfl (fun c1 => ?_) (fun c1 => ?_)
 ·replace h := ite_t h c1
  refine WT.skip <| WT.seq <| WT.block <| sr <| lq (q_move rfl) rfl <| lq (q_move rfl) rfl ?_
  obtain ⟨y1, hy1, h⟩ := bind_some h
  refine lq (q_indexS Str_9 rfl rfl hy1) rfl ?_
  obtain ⟨x1, hx1, h⟩ := bind_some h
  refine lp (p_call Fun_150 rfl (fun w1 hw => m_s_l1Letter_ok hw.fro N (y1.toNat : Int) hx1)) rfl <| lq (q_not rfl) rfl <| lq (q_move rfl) rfl ?_
  obtain ⟨b1, hb_1, h⟩ := bind_some h
  refine WL.cutN 11 [(26, .bool b1), (0, .string p0), (3, .int .i64 s1)] ?_ (fun K => ?_)
  rotate_left
  ·refine WL.split (d := 15) rfl (fun c2 => ?_) (fun c2 => ?_)
   ·replace hb_1 := ite_t hb_1 c2
    refine WL.no rfl rfl rfl rfl <| WL.no rfl rfl rfl rfl <| WL.no rfl rfl rfl rfl <| WL.nox rfl rfl rfl rfl <| WL.nox rfl rfl rfl rfl <| WL.nox rfl rfl rfl rfl <| WL.nox rfl rfl rfl rfl <| WL.nox rfl rfl rfl rfl <| WL.nox rfl rfl rfl rfl <| WL.no rfl rfl rfl rfl <| WL.q (q_pick1 rfl rfl) rfl rfl rfl ?_
    cases hb_1
    exact WL.keep (by exact ⟨rfl, rfl, rfl, trivial⟩) K
   ·replace hb_1 := ite_f hb_1 c2
    refine WL.yes rfl rfl <| lq (q_move rfl) rfl <| WL.yes rfl rfl <| lq (q_eql rfl rfl) rfl <| WL.yes rfl rfl <| lq (q_move rfl) rfl ?_
    obtain ⟨b2, hb_2, hb_1⟩ := bind_some hb_1
    refine WL.cutN 7 [(25, .bool b2), (0, .string p0), (3, .int .i64 s1), (15, .bool false)] ?_ (fun K => ?_)
    rotate_left
    ·refine WL.split (d := 18) rfl (fun c3 => ?_) (fun c3 => ?_)
     ·replace hb_2 := ite_t hb_2 c3
      refine WL.yes rfl rfl <| lq (q_move rfl) rfl <| WL.yes rfl rfl <| lq (q_move rfl) rfl <| WL.yes rfl rfl ?_
      obtain ⟨y2, hy2, hb_2⟩ := bind_some hb_2
      refine lq (q_indexS Str_9 rfl rfl hy2) rfl <| WL.yes rfl rfl <| lq (q_convI Ik_5 Ik_3 rfl) rfl <| WL.yes rfl rfl ?_
      obtain ⟨x2, hx2, hb_2⟩ := bind_some hb_2
      refine lp (p_call Fun_85 rfl (fun w1 hw => m_s_l1In_ok hw.fro N (IntKind.i64.wrap (y2.toNat : Int)) 97 122 hx2)) rfl <| WL.yes rfl rfl <| lq (q_not rfl) rfl <| WL.yes rfl rfl <| WL.q (q_pick1 rfl rfl) rfl rfl rfl ?_
      cases hb_2
      exact WL.keep (by exact ⟨rfl, rfl, rfl, rfl, trivial⟩) K
     ·replace hb_2 := ite_f hb_2 c3
      refine WL.no rfl rfl rfl rfl <| WL.no rfl rfl rfl rfl <| WL.no rfl rfl rfl rfl <| WL.no rfl rfl rfl rfl <| WL.no rfl rfl rfl rfl <| WL.no rfl rfl rfl rfl <| WL.yes rfl rfl <| WL.q (q_pick0 rfl rfl) rfl rfl rfl ?_
      cases hb_2
      exact WL.keep (by exact ⟨rfl, rfl, rfl, rfl, trivial⟩) K
    refine WL.q (q_pick0 rfl rfl) rfl rfl rfl ?_
    cases hb_1
    exact WL.keep (by exact ⟨rfl, rfl, rfl, trivial⟩) K
  refine WL.nil ?_
  refine WT.cond rfl (fun c4 => ?_) (fun c4 => ?_)
  ·replace h := ite_t h c4
   refine sr <| lq (q_assign rfl) rfl <| WL.nil ?_
   refine WT.ret Tryz.func84 (resOk.one rfl) (fun w1 hw => ?_)
   subst hb0
   cases h
   exact post_of_St hw
  replace h := ite_f h c4
  refine WT.skip <| WT.inBlock <| WT.region <| lq (q_move rfl) rfl <| lq (q_add rfl rfl) rfl <| lq (q_assign rfl) rfl <| WL.nil ?_
  refine WT.inLoop (WT.mono (l' := [(0, .string p0), (3, .int .i64 (IntKind.i64.wrap (s1 + 1)))]) (S' := St w0 Φ [] []) ⟨rfl, rfl, trivial⟩ (fun w1 hw => (hw.sel (js := []) rfl).selO (js := []) rfl) ?_)
  exact ih1 (IntKind.i64.wrap (s1 + 1)) h
 replace h := ite_f h c1
 refine WT.exit rfl <| sr <| lq (q_move rfl) rfl <| lq (q_lenS Str_9 rfl rfl) rfl ?_
 obtain ⟨x3, hx3, h⟩ := bind_some h
 refine lp (p_call Fun_85 rfl (fun w1 hw => m_s_l1In_ok hw.fro N (p0.size : Int) 1 12 hx3)) rfl <| lq (q_assign rfl) rfl <| WL.nil ?_
 refine WT.ret Tryz.func84 (resOk.one rfl) (fun w1 hw => ?_)
 subst hb0
 cases h
 exact post_of_St hw
theorem m_s_l2Plain_ok {Φ : Hp} {w : World} (hΦ : In Φ w) (N : Nat) (p0 : ByteArray)   {r : Bool} (h : m_s_l2Plain N p0 = some r) :
  Calls Tryz.prog 243 [.string p0].toArray w (Post (.bool r) w) := by
 refine enter Tryz.func243 rfl Tryz.ntmps243 rfl (St.start0 hΦ) ?_
 generalize hb0 : (⟨w, [], Φ⟩ : Base) = w0
 unfold m_s_l2Plain at h
 refine sr <| lq (q_assign rfl) rfl <| WL.nil <| WT.seq <| sr <| lq (q_assign rfl) rfl <| WL.nil <| WT.block <| WT.loop <| WT.mono (l' := [(0, .string p0), (3, .int .i64 0)]) (S' := St w0 Φ [] []) ⟨rfl, rfl, trivial⟩ (fun w1 hw => (hw.sel (js := []) rfl).selO (js := []) rfl) ?_
 refine loop_ind (σ := Int) (fun s => [(0, .string p0), (3, .int .i64 s)]) (fun s => St w0 Φ [] []) (fun m s => m_s_l2Plain_l1 N p0 m s = some r) (fun s hm => none_ne (show (none : Option (Bool)) = some r from hm)) (fun n1 ih1 s hm => ?_) N (0) h
 revert hm; revert s; intro s1 hm
 have h : m_s_l2Plain_l1 N p0 (n1 + 1) s1 = some r := hm
 show WT _ _ [(0, .string p0), (3, .int .i64 s1)] (St w0 Φ [] [])
 unfold m_s_l2Plain_l1 at h
 refine WT.seq <| sr <| lq (q_move rfl) rfl <| lq (q_move rfl) rfl <| lq (q_lenS Str_9 rfl rfl) rfl <| lq (q_lss rfl rfl) rfl <| WL.nil ?_
 refine WT.cond rfl (fun c1 => ?_) (fun c1 => ?_)
 ·replace h := ite_t h c1
  refine WT.skip <| WT.seq <| WT.block <| sr <| lq (q_move rfl) rfl <| lq (q_move rfl) rfl ?_
  obtain ⟨y1, hy1, h⟩ := bind_some h
  refine lq (q_indexS Str_9 rfl rfl hy1) rfl ?_
  obtain ⟨x1, hx1, h⟩ := bind_some h
  refine lp (p_call Fun_150 rfl (fun w1 hw => m_s_l1Letter_ok hw.fro N (y1.toNat : Int) hx1)) rfl <| lq (q_not rfl) rfl <| WL.nil ?_
  refine WT.cond rfl (fun c2 => ?_) (fun c2 => ?_)
  ·replace h := ite_t h c2
   refine sr <| lq (q_assign rfl) rfl <| WL.nil ?_
   refine WT.ret Tryz.func243 (resOk.one rfl) (fun w1 hw => ?_)
   subst hb0
   cases h
   exact post_of_St hw
  replace h := ite_f h c2
  refine WT.skip <| WT.inBlock <| WT.region <| lq (q_move rfl) rfl <| lq (q_add rfl rfl) rfl <| lq (q_assign rfl) rfl <| WL.nil ?_
  refine WT.inLoop (WT.mono (l' := [(0, .string p0), (3, .int .i64 (IntKind.i64.wrap (s1 + 1)))]) (S' := St w0 Φ [] []) ⟨rfl, rfl, trivial⟩ (fun w1 hw => (hw.sel (js := []) rfl).selO (js := []) rfl) ?_)
  exact ih1 (IntKind.i64.wrap (s1 + 1)) h
 replace h := ite_f h c1
 refine WT.exit rfl <| sr <| lq (q_move rfl) rfl <| lq (q_lenS Str_9 rfl rfl) rfl <| lq (q_leq rfl rfl) rfl <| lq (q_assign rfl) rfl <| WL.nil ?_
 refine WT.ret Tryz.func243 (resOk.one rfl) (fun w1 hw => ?_)
 subst hb0
 cases h
 exact post_of_St hw
theorem m_s_ValOk_ok {Φ : Hp} {w : World} (hΦ : In Φ w) (N : Nat) (p0 : TVal)   {r : Bool} (h : m_s_ValOk N p0 = some r) :
  Calls Tryz.prog 223 [.agg [.int .i64 p0.K, .int .i64 p0.N, .string p0.S].toArray].toArray w (Post (.bool r) w) := by
 refine enter Tryz.func223 rfl Tryz.ntmps223 rfl (St.start0 hΦ) ?_
 unfold m_s_ValOk at h
 refine WT.seq <| WT.region ?_
 refine ln (n_box (C := #[.int .i64 p0.K, .int .i64 p0.N, .string p0.S]) rfl rfl) rfl (fun b_1 => ?_)
 refine lq (q_assign rfl) rfl <| WL.nil <| WT.seq <| sr <| lq (q_fieldAddr Fld_121_0 rfl) rfl <| lq (q_load1 T1_3 rfl (fun w1 hw => hw.rgO (i := 0) rfl 0 1 [.int .i64 p0.K] rfl)) rfl <| WL.nil <| WT.block <| sr <| lq (q_eql rfl rfl) rfl <| lq (q_assign rfl) rfl <| WL.nil ?_
 refine WT.cond rfl (fun c1 => ?_) (fun c1 => ?_)
 ·replace h := ite_t h c1
  refine sr <| lq (q_fieldAddr Fld_121_1 rfl) rfl <| lq (q_load1 T1_3 rfl (fun w1 hw => hw.rgO (i := 0) rfl 1 1 [.int .i64 p0.N] rfl)) rfl ?_
  obtain ⟨x1, hx1, h⟩ := bind_some h
  refine lp (p_call Fun_85 rfl (fun w1 hw => m_s_l1In_ok hw.fro N p0.N (-1000000000) 1000000000 hx1)) rfl <| lq (q_move rfl) rfl ?_
  obtain ⟨b1, hb_1, h⟩ := bind_some h
  refine WL.cutN 4 [(14, .bool b1), (2, .bool false)] ?_ (fun K => ?_)
  rotate_left
  ·refine WL.split (d := 10) rfl (fun c2 => ?_) (fun c2 => ?_)
   ·replace hb_1 := ite_t hb_1 c2
    refine WL.yes rfl rfl <| lq (q_fieldAddr Fld_121_2 rfl) rfl <| WL.yes rfl rfl <| lq (q_load1 T1_9 rfl (fun w1 hw => hw.rgO (i := 0) rfl 2 1 [.string p0.S] rfl)) rfl <| WL.yes rfl rfl <| lq (q_seq rfl rfl) rfl <| WL.q (q_pick1 rfl rfl) rfl rfl rfl ?_
    cases hb_1
    exact WL.keep (by exact ⟨rfl, rfl, trivial⟩) K
   ·replace hb_1 := ite_f hb_1 c2
    refine WL.no rfl rfl rfl rfl <| WL.no rfl rfl rfl rfl <| WL.no rfl rfl rfl rfl <| WL.q (q_pick0 rfl rfl) rfl rfl rfl ?_
    cases hb_1
    exact WL.keep (by exact ⟨rfl, rfl, trivial⟩) K
  refine lq (q_assign rfl) rfl <| WL.nil ?_
  refine WT.ret Tryz.func223 (resOk.one rfl) (fun w1 hw => ?_)
  cases h
  exact post_of_St hw
 replace h := ite_f h c1
 refine sr <| lq (q_eql rfl rfl) rfl <| lq (q_assign rfl) rfl <| WL.nil ?_
 refine WT.cond rfl (fun c3 => ?_) (fun c3 => ?_)
 ·replace h := ite_t h c3
  refine sr <| lq (q_fieldAddr Fld_121_2 rfl) rfl <| lq (q_load1 T1_9 rfl (fun w1 hw => hw.rgO (i := 0) rfl 2 1 [.string p0.S] rfl)) rfl ?_
  obtain ⟨x2, hx2, h⟩ := bind_some h
  refine lp (p_call Fun_243 rfl (fun w1 hw => m_s_l2Plain_ok hw.fro N p0.S hx2)) rfl <| lq (q_move rfl) rfl ?_
  obtain ⟨b2, hb_2, h⟩ := bind_some h
  refine WL.cutN 4 [(24, .bool b2), (2, .bool false)] ?_ (fun K => ?_)
  rotate_left
  ·refine WL.split (d := 20) rfl (fun c4 => ?_) (fun c4 => ?_)
   ·replace hb_2 := ite_t hb_2 c4
    refine WL.yes rfl rfl <| lq (q_fieldAddr Fld_121_1 rfl) rfl <| WL.yes rfl rfl <| lq (q_load1 T1_3 rfl (fun w1 hw => hw.rgO (i := 0) rfl 1 1 [.int .i64 p0.N] rfl)) rfl <| WL.yes rfl rfl <| lq (q_eql rfl rfl) rfl <| WL.q (q_pick1 rfl rfl) rfl rfl rfl ?_
    cases hb_2
    exact WL.keep (by exact ⟨rfl, rfl, trivial⟩) K
   ·replace hb_2 := ite_f hb_2 c4
    refine WL.no rfl rfl rfl rfl <| WL.no rfl rfl rfl rfl <| WL.no rfl rfl rfl rfl <| WL.q (q_pick0 rfl rfl) rfl rfl rfl ?_
    cases hb_2
    exact WL.keep (by exact ⟨rfl, rfl, trivial⟩) K
  refine lq (q_assign rfl) rfl <| WL.nil ?_
  refine WT.ret Tryz.func223 (resOk.one rfl) (fun w1 hw => ?_)
  cases h
  exact post_of_St hw
 replace h := ite_f h c3
 refine WT.skip <| WT.inBlock <| sr <| lq (q_assign rfl) rfl <| WL.nil ?_
 refine WT.ret Tryz.func223 (resOk.one rfl) (fun w1 hw => ?_)
 cases h
 exact post_of_St hw
theorem m_s_l5Large_ok {Φ : Hp} {w : World} (hΦ : In Φ w) (N : Nat) (p0 : Int)   {r : Bool} (h : m_s_l5Large N p0 = some r) :
  Calls Tryz.prog 254 [.int .u8 p0].toArray w (Post (.bool r) w) := by
 refine enter Tryz.func254 rfl Tryz.ntmps254 rfl (St.start0 hΦ) ?_
 unfold m_s_l5Large at h
 refine sr <| lq (q_assign rfl) rfl <| WL.nil <| sr <| lq (q_move rfl) rfl <| lq (q_convI Ik_5 Ik_3 rfl) rfl ?_
 obtain ⟨x1, hx1, h⟩ := bind_some h
 refine lp (p_call Fun_85 rfl (fun w1 hw => m_s_l1In_ok hw.fro N (IntKind.i64.wrap p0) 65 90 hx1)) rfl <| lq (q_assign rfl) rfl <| WL.nil ?_
 refine WT.ret Tryz.func254 (resOk.one rfl) (fun w1 hw => ?_)
 cases h
 exact post_of_St hw
theorem m_s_l5VarOk_ok {Φ : Hp} {w : World} (hΦ : In Φ w) (N : Nat) (p0 : ByteArray)   {r : Bool} (h : m_s_l5VarOk N p0 = some r) :
  Calls Tryz.prog 241 [.string p0].toArray w (Post (.bool r) w) := by
 refine enter Tryz.func241 rfl Tryz.ntmps241 rfl (St.start0 hΦ) ?_
 generalize hb0 : (⟨w, [], Φ⟩ : Base) = w0
 unfold m_s_l5VarOk at h
 refine sr <| lq (q_assign rfl) rfl <| WL.nil <| WT.seq <| sr <| lq (q_assign rfl) rfl <| WL.nil <| WT.block <| WT.loop <| WT.mono (l' := [(0, .string p0), (3, .int .i64 0)]) (S' := St w0 Φ [] []) ⟨rfl, rfl, trivial⟩ (fun w1 hw => (hw.sel (js := []) rfl).selO (js := []) rfl) ?_
 refine loop_ind (σ := Int) (fun s => [(0, .string p0), (3, .int .i64 s)]) (fun s => St w0 Φ [] []) (fun m s => m_s_l5VarOk_l1 N p0 m s = some r) (fun s hm => none_ne (show (none : Option (Bool)) = some r from hm)) (fun n1 ih1 s hm => ?_) N (0) h
 revert hm; revert s; intro s1 hm
 have h : m_s_l5VarOk_l1 N p0 (n1 + 1) s1 = some r := hm
 show WT _ _ [(0, .string p0), (3, .int .i64 s1)] (St w0 Φ [] [])
 unfold m_s_l5VarOk_l1 at h
 refine WT.seq <| sr <| lq (q_move rfl) rfl <| lq (q_move rfl) rfl <| lq (q_lenS Str_9 rfl rfl) rfl <| lq (q_lss rfl rfl) rfl <| WL.nil ?_
 refine WT.cond rfl (fun c1 => ?_) (fun c1 => ?_)
 ·replace h := ite_t h c1
  refine WT.skip <| WT.seq <| WT.block <| sr <| lq (q_move rfl) rfl <| lq (q_move rfl) rfl ?_
  obtain ⟨y1, hy1, h⟩ := bind_some h
  refine lq (q_indexS Str_9 rfl rfl hy1) rfl ?_
  obtain ⟨x1, hx1, h⟩ := bind_some h
  refine lp (p_call Fun_254 rfl (fun w1 hw => m_s_l5Large_ok hw.fro N (y1.toNat : Int) hx1)) rfl <| lq (q_not rfl) rfl <| lq (q_move rfl) rfl ?_
  obtain ⟨b1, hb_1, h⟩ := bind_some h
  refine WL.cutN 10 [(25, .bool b1), (0, .string p0), (3, .int .i64 s1)] ?_ (fun K => ?_)
  rotate_left
  ·refine WL.split (d := 15) rfl (fun c2 => ?_) (fun c2 => ?_)
   ·replace hb_1 := ite_t hb_1 c2
    refine WL.yes rfl rfl <| lq (q_move rfl) rfl <| WL.yes rfl rfl <| lq (q_eql rfl rfl) rfl <| WL.yes rfl rfl <| lq (q_move rfl) rfl ?_
    obtain ⟨b2, hb_2, hb_1⟩ := bind_some hb_1
    refine WL.cutN 6 [(24, .bool b2), (0, .string p0), (3, .int .i64 s1), (15, .bool true)] ?_ (fun K => ?_)
    rotate_left
    ·refine WL.split (d := 18) rfl (fun c3 => ?_) (fun c3 => ?_)
     ·replace hb_2 := ite_t hb_2 c3
      refine WL.no rfl rfl rfl rfl <| WL.no rfl rfl rfl rfl <| WL.no rfl rfl rfl rfl <| WL.no rfl rfl rfl rfl <| WL.no rfl rfl rfl rfl <| WL.yes rfl rfl <| WL.q (q_pick1 rfl rfl) rfl rfl rfl ?_
      cases hb_2
      exact WL.keep (by exact ⟨rfl, rfl, rfl, rfl, trivial⟩) K
     ·replace hb_2 := ite_f hb_2 c3
      refine WL.yes rfl rfl <| lq (q_move rfl) rfl <| WL.yes rfl rfl <| lq (q_move rfl) rfl <| WL.yes rfl rfl ?_
      obtain ⟨y2, hy2, hb_2⟩ := bind_some hb_2
      refine lq (q_indexS Str_9 rfl rfl hy2) rfl <| WL.yes rfl rfl ?_
      obtain ⟨x2, hx2, hb_2⟩ := bind_some hb_2
      refine lp (p_call Fun_150 rfl (fun w1 hw => m_s_l1Letter_ok hw.fro N (y2.toNat : Int) hx2)) rfl <| WL.yes rfl rfl <| lq (q_not rfl) rfl <| WL.yes rfl rfl <| WL.q (q_pick0 rfl rfl) rfl rfl rfl ?_
      cases hb_2
      exact WL.keep (by exact ⟨rfl, rfl, rfl, rfl, trivial⟩) K
    refine WL.q (q_pick1 rfl rfl) rfl rfl rfl ?_
    cases hb_1
    exact WL.keep (by exact ⟨rfl, rfl, rfl, trivial⟩) K
   ·replace hb_1 := ite_f hb_1 c2
    refine WL.no rfl rfl rfl rfl <| WL.no rfl rfl rfl rfl <| WL.no rfl rfl rfl rfl <| WL.nox rfl rfl rfl rfl <| WL.nox rfl rfl rfl rfl <| WL.nox rfl rfl rfl rfl <| WL.nox rfl rfl rfl rfl <| WL.nox rfl rfl rfl rfl <| WL.no rfl rfl rfl rfl <| WL.q (q_pick0 rfl rfl) rfl rfl rfl ?_
    cases hb_1
    exact WL.keep (by exact ⟨rfl, rfl, rfl, trivial⟩) K
  refine WL.nil ?_
  refine WT.cond rfl (fun c4 => ?_) (fun c4 => ?_)
  ·replace h := ite_t h c4
   refine sr <| lq (q_assign rfl) rfl <| WL.nil ?_
   refine WT.ret Tryz.func241 (resOk.one rfl) (fun w1 hw => ?_)
   subst hb0
   cases h
   exact post_of_St hw
  replace h := ite_f h c4
  refine WT.skip <| WT.inBlock <| WT.region <| lq (q_move rfl) rfl <| lq (q_add rfl rfl) rfl <| lq (q_assign rfl) rfl <| WL.nil ?_
  refine WT.inLoop (WT.mono (l' := [(0, .string p0), (3, .int .i64 (IntKind.i64.wrap (s1 + 1)))]) (S' := St w0 Φ [] []) ⟨rfl, rfl, trivial⟩ (fun w1 hw => (hw.sel (js := []) rfl).selO (js := []) rfl) ?_)
  exact ih1 (IntKind.i64.wrap (s1 + 1)) h
 replace h := ite_f h c1
 refine WT.exit rfl <| sr <| lq (q_move rfl) rfl <| lq (q_lenS Str_9 rfl rfl) rfl ?_
 obtain ⟨x3, hx3, h⟩ := bind_some h
 refine lp (p_call Fun_85 rfl (fun w1 hw => m_s_l1In_ok hw.fro N (p0.size : Int) 1 12 hx3)) rfl <| lq (q_assign rfl) rfl <| WL.nil ?_
 refine WT.ret Tryz.func241 (resOk.one rfl) (fun w1 hw => ?_)
 subst hb0
 cases h
 exact post_of_St hw
theorem m_s_ArgOk_ok {Φ : Hp} {w : World} (hΦ : In Φ w) (N : Nat) (p0 : TArg)   {r : Bool} (h : m_s_ArgOk N p0 = some r) :
  Calls Tryz.prog 221 [.agg [.int .i64 p0.K, .string p0.S, .int .i64 p0.V.K, .int .i64 p0.V.N, .string p0.V.S].toArray].toArray w (Post (.bool r) w) := by
 refine enter Tryz.func221 rfl Tryz.ntmps221 rfl (St.start0 hΦ) ?_
 unfold m_s_ArgOk at h
 refine WT.seq <| WT.region ?_
 refine ln (n_box (C := #[.int .i64 p0.K, .string p0.S, .int .i64 p0.V.K, .int .i64 p0.V.N, .string p0.V.S]) rfl rfl) rfl (fun b_1 => ?_)
 refine lq (q_assign rfl) rfl <| WL.nil <| sr <| lq (q_fieldAddr Fld_126_2 rfl) rfl <| lq (q_loadN Tn_121 rfl (fun w1 hw => hw.rgO (i := 0) rfl 2 3 [.int .i64 p0.V.K, .int .i64 p0.V.N, .string p0.V.S] rfl) rfl) rfl <| lq (q_build (vs := []) (C := #[.int .i64 0, .int .i64 0, .string eS]) Pl_121 Zr_121 rfl (fill_nil)) rfl <| lq (q_eqA EqT_121 rfl rfl rfl (r := eqT_TVal p0.V (⟨0, 0, eS⟩ : TVal)) rfl) rfl ?_
 refine lq (q_assign rfl) rfl <| WL.nil <| WT.seq <| sr <| lq (q_fieldAddr Fld_126_0 rfl) rfl <| lq (q_load1 T1_3 rfl (fun w1 hw => hw.rgO (i := 0) rfl 0 1 [.int .i64 p0.K] rfl)) rfl <| WL.nil <| WT.block <| sr <| lq (q_eql rfl rfl) rfl <| lq (q_assign rfl) rfl <| WL.nil ?_
 refine WT.cond rfl (fun c1 => ?_) (fun c1 => ?_)
 ·replace h := ite_t h c1
  refine sr <| lq (q_fieldAddr Fld_126_1 rfl) rfl <| lq (q_load1 T1_9 rfl (fun w1 hw => hw.rgO (i := 0) rfl 1 1 [.string p0.S] rfl)) rfl ?_
  obtain ⟨x1, hx1, h⟩ := bind_some h
  refine lp (p_call Fun_241 rfl (fun w1 hw => m_s_l5VarOk_ok hw.fro N p0.S hx1)) rfl <| lq (q_move rfl) rfl ?_
  obtain ⟨b1, hb_1, h⟩ := bind_some h
  refine WL.cutN 2 [(17, .bool b1), (2, .bool false)] ?_ (fun K => ?_)
  rotate_left
  ·refine WL.split (d := 15) rfl (fun c2 => ?_) (fun c2 => ?_)
   ·replace hb_1 := ite_t hb_1 c2
    refine WL.yes rfl rfl <| lq (q_move rfl) rfl <| WL.q (q_pick1 rfl rfl) rfl rfl rfl ?_
    cases hb_1
    exact WL.keep (by exact ⟨rfl, rfl, trivial⟩) K
   ·replace hb_1 := ite_f hb_1 c2
    refine WL.no rfl rfl rfl rfl <| WL.q (q_pick0 rfl rfl) rfl rfl rfl ?_
    cases hb_1
    exact WL.keep (by exact ⟨rfl, rfl, trivial⟩) K
  refine lq (q_assign rfl) rfl <| WL.nil ?_
  refine WT.ret Tryz.func221 (resOk.one rfl) (fun w1 hw => ?_)
  cases h
  exact post_of_St hw
 replace h := ite_f h c1
 refine sr <| lq (q_eql rfl rfl) rfl <| lq (q_assign rfl) rfl <| WL.nil ?_
 refine WT.cond rfl (fun c3 => ?_) (fun c3 => ?_)
 ·replace h := ite_t h c3
  refine sr <| lq (q_fieldAddr Fld_126_2 rfl) rfl <| lq (q_loadN Tn_121 rfl (fun w1 hw => hw.rgO (i := 0) rfl 2 3 [.int .i64 p0.V.K, .int .i64 p0.V.N, .string p0.V.S] rfl) rfl) rfl ?_
  obtain ⟨x2, hx2, h⟩ := bind_some h
  refine lp (p_call Fun_223 rfl (fun w1 hw => m_s_ValOk_ok hw.fro N p0.V hx2)) rfl <| lq (q_move rfl) rfl ?_
  obtain ⟨b2, hb_2, h⟩ := bind_some h
  refine WL.cutN 4 [(27, .bool b2), (2, .bool false)] ?_ (fun K => ?_)
  rotate_left
  ·refine WL.split (d := 23) rfl (fun c4 => ?_) (fun c4 => ?_)
   ·replace hb_2 := ite_t hb_2 c4
    refine WL.yes rfl rfl <| lq (q_fieldAddr Fld_126_1 rfl) rfl <| WL.yes rfl rfl <| lq (q_load1 T1_9 rfl (fun w1 hw => hw.rgO (i := 0) rfl 1 1 [.string p0.S] rfl)) rfl <| WL.yes rfl rfl <| lq (q_seq rfl rfl) rfl <| WL.q (q_pick1 rfl rfl) rfl rfl rfl ?_
    cases hb_2
    exact WL.keep (by exact ⟨rfl, rfl, trivial⟩) K
   ·replace hb_2 := ite_f hb_2 c4
    refine WL.no rfl rfl rfl rfl <| WL.no rfl rfl rfl rfl <| WL.no rfl rfl rfl rfl <| WL.q (q_pick0 rfl rfl) rfl rfl rfl ?_
    cases hb_2
    exact WL.keep (by exact ⟨rfl, rfl, trivial⟩) K
  refine lq (q_assign rfl) rfl <| WL.nil ?_
  refine WT.ret Tryz.func221 (resOk.one rfl) (fun w1 hw => ?_)
  cases h
  exact post_of_St hw
 replace h := ite_f h c3
 refine sr <| lq (q_eql rfl rfl) rfl <| lq (q_assign rfl) rfl <| WL.nil ?_
 refine WT.cond rfl (fun c5 => ?_) (fun c5 => ?_)
 ·replace h := ite_t h c5
  refine sr <| lq (q_fieldAddr Fld_126_1 rfl) rfl <| lq (q_load1 T1_9 rfl (fun w1 hw => hw.rgO (i := 0) rfl 1 1 [.string p0.S] rfl)) rfl <| lq (q_seq rfl rfl) rfl <| lq (q_move rfl) rfl ?_
  obtain ⟨b3, hb_3, h⟩ := bind_some h
  refine WL.cutN 2 [(35, .bool b3), (2, .bool false)] ?_ (fun K => ?_)
  rotate_left
  ·refine WL.split (d := 33) rfl (fun c6 => ?_) (fun c6 => ?_)
   ·replace hb_3 := ite_t hb_3 c6
    refine WL.yes rfl rfl <| lq (q_move rfl) rfl <| WL.q (q_pick1 rfl rfl) rfl rfl rfl ?_
    cases hb_3
    exact WL.keep (by exact ⟨rfl, rfl, trivial⟩) K
   ·replace hb_3 := ite_f hb_3 c6
    refine WL.no rfl rfl rfl rfl <| WL.q (q_pick0 rfl rfl) rfl rfl rfl ?_
    cases hb_3
    exact WL.keep (by exact ⟨rfl, rfl, trivial⟩) K
  refine lq (q_assign rfl) rfl <| WL.nil ?_
  refine WT.ret Tryz.func221 (resOk.one rfl) (fun w1 hw => ?_)
  cases h
  exact post_of_St hw
 replace h := ite_f h c5
 refine WT.skip <| WT.inBlock <| sr <| lq (q_assign rfl) rfl <| WL.nil ?_
 refine WT.ret Tryz.func221 (resOk.one rfl) (fun w1 hw => ?_)
 cases h
 exact post_of_St hw
theorem m_s_PatOk_ok {Φ : Hp} {w : World} (hΦ : In Φ w) (N : Nat) (p0 : TPat) {pv0_0 : Value} {pG0_0 : List Nat} (ph0_0 : RSl RTArg 5 Φ pG0_0 pv0_0 p0.Args) {r : Bool} (h : m_s_PatOk N p0 = some r) :
  Calls Tryz.prog 191 [.agg [.string p0.Kind, pv0_0, .bool p0.Not].toArray].toArray w (Post (.bool r) w) := by
 refine enter Tryz.func191 rfl Tryz.ntmps191 rfl (St.start0 hΦ) ?_
 generalize hb0 : (⟨w, [], Φ⟩ : Base) = w0
 unfold m_s_PatOk at h
 refine WT.seq <| WT.region ?_
 refine ln (n_box (C := #[.string p0.Kind, pv0_0, .bool p0.Not]) rfl rfl) rfl (fun b_1 => ?_)
 refine lq (q_assign rfl) rfl <| WL.nil <| WT.seq <| sr <| lq (q_assign rfl) rfl <| WL.nil <| WT.block <| WT.loop <| WT.mono (l' := [(1, .pointer (some ⟨b_1, 0, none⟩)), (3, .int .i64 0)]) (S' := St w0 Φ [(b_1, .cells #[.string p0.Kind, pv0_0, .bool p0.Not] 114 (0, 0))] []) ⟨rfl, rfl, trivial⟩ (fun w1 hw => (hw.sel (js := []) rfl).selO (js := [0]) rfl) ?_
 refine loop_ind (σ := Int) (fun s => [(1, .pointer (some ⟨b_1, 0, none⟩)), (3, .int .i64 s)]) (fun s => St w0 Φ [(b_1, .cells #[.string p0.Kind, pv0_0, .bool p0.Not] 114 (0, 0))] []) (fun m s => m_s_PatOk_l1 N p0 m s = some r) (fun s hm => none_ne (show (none : Option (Bool)) = some r from hm)) (fun n1 ih1 s hm => ?_) N (0) h
 revert hm; revert s; intro s1 hm
 have h : m_s_PatOk_l1 N p0 (n1 + 1) s1 = some r := hm
 show WT _ _ [(1, .pointer (some ⟨b_1, 0, none⟩)), (3, .int .i64 s1)] (St w0 Φ [(b_1, .cells #[.string p0.Kind, pv0_0, .bool p0.Not] 114 (0, 0))] [])
 unfold m_s_PatOk_l1 at h
 refine WT.seq <| sr <| lq (q_move rfl) rfl <| lq (q_fieldAddr Fld_114_1 rfl) rfl <| lq (q_load1 T1_112 rfl (fun w1 hw => hw.rgO (i := 0) rfl 1 1 [pv0_0] rfl)) rfl <| lq (q_lenR Sl_112 rfl rfl ph0_0) rfl <| lq (q_lss rfl rfl) rfl <| WL.nil ?_
 refine WT.cond rfl (fun c1 => ?_) (fun c1 => ?_)
 ·replace h := ite_t h c1
  refine WT.skip <| WT.seq <| WT.block <| sr <| lq (q_fieldAddr Fld_114_1 rfl) rfl <| lq (q_load1 T1_112 rfl (fun w1 hw => hw.rgO (i := 0) rfl 1 1 [pv0_0] rfl)) rfl <| lq (q_move rfl) rfl ?_
  obtain ⟨x1, hx1, h⟩ := bind_some h
  obtain ⟨cs1, F1, -, g1, hb1, hs1, r1⟩ := ph0_0.el (idx_some hx1).2.2
  obtain ⟨rfl, -⟩ := r1
  refine lq (q_indexAddr Sl_112 rfl rfl ph0_0 hx1) rfl <| lq (q_loadN Tn_126 rfl (fun w1 hw => (g1.of_eq 0 5 rfl rfl : rg _ _ _ [.int .i64 x1.K, .string x1.S, .int .i64 x1.V.K, .int .i64 x1.V.N, .string x1.V.S]).rangeAt hw.fro) rfl) rfl ?_
  obtain ⟨x2, hx2, h⟩ := bind_some h
  refine lp (p_call Fun_221 rfl (fun w1 hw => m_s_ArgOk_ok hw.fro N x1 hx2)) rfl <| lq (q_not rfl) rfl <| WL.nil ?_
  refine WT.cond rfl (fun c2 => ?_) (fun c2 => ?_)
  ·replace h := ite_t h c2
   refine sr <| lq (q_assign rfl) rfl <| WL.nil ?_
   refine WT.ret Tryz.func191 (resOk.one rfl) (fun w1 hw => ?_)
   subst hb0
   cases h
   exact post_of_St hw
  replace h := ite_f h c2
  refine WT.skip <| WT.inBlock <| WT.region <| lq (q_move rfl) rfl <| lq (q_add rfl rfl) rfl <| lq (q_assign rfl) rfl <| WL.nil ?_
  refine WT.inLoop (WT.mono (l' := [(1, .pointer (some ⟨b_1, 0, none⟩)), (3, .int .i64 (IntKind.i64.wrap (s1 + 1)))]) (S' := St w0 Φ [(b_1, .cells #[.string p0.Kind, pv0_0, .bool p0.Not] 114 (0, 0))] []) ⟨rfl, rfl, trivial⟩ (fun w1 hw => (hw.sel (js := []) rfl).selO (js := [0]) rfl) ?_)
  exact ih1 (IntKind.i64.wrap (s1 + 1)) h
 replace h := ite_f h c1
 refine WT.exit rfl <| sr <| lq (q_fieldAddr Fld_114_0 rfl) rfl <| lq (q_load1 T1_9 rfl (fun w1 hw => hw.rgO (i := 0) rfl 0 1 [.string p0.Kind] rfl)) rfl ?_
 obtain ⟨x3, hx3, h⟩ := bind_some h
 refine lp (p_call Fun_84 rfl (fun w1 hw => m_s_NameOk_ok hw.fro N p0.Kind hx3)) rfl <| lq (q_move rfl) rfl ?_
 obtain ⟨b1, hb_1, h⟩ := bind_some h
 refine WL.cutN 5 [(26, .bool b1)] ?_ (fun K => ?_)
 rotate_left
 ·refine WL.split (d := 21) rfl (fun c3 => ?_) (fun c3 => ?_)
  ·replace hb_1 := ite_t hb_1 c3
   refine WL.yes rfl rfl <| lq (q_fieldAddr Fld_114_1 rfl) rfl <| WL.yes rfl rfl <| lq (q_load1 T1_112 rfl (fun w1 hw => hw.rgO (i := 0) rfl 1 1 [pv0_0] rfl)) rfl <| WL.yes rfl rfl <| lq (q_lenR Sl_112 rfl rfl ph0_0) rfl <| WL.yes rfl rfl <| lq (q_leq rfl rfl) rfl <| WL.q (q_pick1 rfl rfl) rfl rfl rfl ?_
   cases hb_1
   exact WL.keep (by exact ⟨rfl, trivial⟩) K
  ·replace hb_1 := ite_f hb_1 c3
   refine WL.no rfl rfl rfl rfl <| WL.no rfl rfl rfl rfl <| WL.no rfl rfl rfl rfl <| WL.no rfl rfl rfl rfl <| WL.q (q_pick0 rfl rfl) rfl rfl rfl ?_
   cases hb_1
   exact WL.keep (by exact ⟨rfl, trivial⟩) K
 refine lq (q_assign rfl) rfl <| WL.nil ?_
 refine WT.ret Tryz.func191 (resOk.one rfl) (fun w1 hw => ?_)
 subst hb0
 cases h
 exact post_of_St hw
theorem m_s_l9Pats_ok {Φ : Hp} {w : World} (hΦ : In Φ w) (N : Nat) (p0 : (List TPat)) {pv0 : Value} {pG0 : List Nat} (ph0 : RSl RTPat 3 Φ pG0 pv0 p0) {r : Bool} (h : m_s_l9Pats N p0 = some r) :
  Calls Tryz.prog 133 [pv0].toArray w (Post (.bool r) w) := by
 refine enter Tryz.func133 rfl Tryz.ntmps133 rfl (St.start0 hΦ) ?_
 generalize hb0 : (⟨w, [], Φ⟩ : Base) = w0
 unfold m_s_l9Pats at h
 refine sr <| lq (q_assign rfl) rfl <| WL.nil <| WT.seq <| sr <| lq (q_assign rfl) rfl <| WL.nil <| WT.block <| WT.loop <| WT.mono (l' := [(0, pv0), (3, .int .i64 0)]) (S' := St w0 Φ [] []) ⟨rfl, rfl, trivial⟩ (fun w1 hw => (hw.sel (js := []) rfl).selO (js := []) rfl) ?_
 refine loop_ind (σ := Int) (fun s => [(0, pv0), (3, .int .i64 s)]) (fun s => St w0 Φ [] []) (fun m s => m_s_l9Pats_l1 N p0 m s = some r) (fun s hm => none_ne (show (none : Option (Bool)) = some r from hm)) (fun n1 ih1 s hm => ?_) N (0) h
 revert hm; revert s; intro s1 hm
 have h : m_s_l9Pats_l1 N p0 (n1 + 1) s1 = some r := hm
 show WT _ _ [(0, pv0), (3, .int .i64 s1)] (St w0 Φ [] [])
 unfold m_s_l9Pats_l1 at h
 refine WT.seq <| sr <| lq (q_move rfl) rfl <| lq (q_move rfl) rfl <| lq (q_lenR Sl_45 rfl rfl ph0) rfl <| lq (q_lss rfl rfl) rfl <| WL.nil ?_
 refine WT.cond rfl (fun c1 => ?_) (fun c1 => ?_)
 ·replace h := ite_t h c1
  refine WT.skip <| WT.seq <| WT.block <| WT.seq <| sr <| lq (q_move rfl) rfl <| lq (q_gtr rfl rfl) rfl <| lq (q_move rfl) rfl ?_
  obtain ⟨b1, hb_1, h⟩ := bind_some h
  refine WL.cutN 7 [(19, .bool b1), (0, pv0), (3, .int .i64 s1)] ?_ (fun K => ?_)
  rotate_left
  ·refine WL.split (d := 12) rfl (fun c2 => ?_) (fun c2 => ?_)
   ·replace hb_1 := ite_t hb_1 c2
    refine WL.yes rfl rfl <| lq (q_move rfl) rfl <| WL.yes rfl rfl <| lq (q_move rfl) rfl <| WL.yes rfl rfl ?_
    obtain ⟨x1, hx1, hb_1⟩ := bind_some hb_1
    obtain ⟨cs1, F1, -, g1, hb1, hs1, r1⟩ := ph0.el (idx_some hx1).2.2
    obtain ⟨v1, G1, rfl, hq1, h1⟩ := r1
    obtain rfl := hq1.symm
    refine lq (q_indexAddr Sl_45 rfl rfl ph0 hx1) rfl <| WL.yes rfl rfl <| lq (q_fieldAddr Fld_114_2 rfl) rfl <| WL.yes rfl rfl <| lq (q_load1 T1_4 rfl (fun w1 hw => (g1.of_eq 2 1 rfl rfl : rg _ _ _ [.bool x1.Not]).rangeAt hw.fro)) rfl <| WL.yes rfl rfl <| lq (q_not rfl) rfl <| WL.q (q_pick1 rfl rfl) rfl rfl rfl ?_
    cases hb_1
    exact WL.keep (by exact ⟨rfl, rfl, rfl, trivial⟩) K
   ·replace hb_1 := ite_f hb_1 c2
    refine WL.no rfl rfl rfl rfl <| WL.no rfl rfl rfl rfl <| WL.no rfl rfl rfl rfl <| WL.no rfl rfl rfl rfl <| WL.no rfl rfl rfl rfl <| WL.no rfl rfl rfl rfl <| WL.q (q_pick0 rfl rfl) rfl rfl rfl ?_
    cases hb_1
    exact WL.keep (by exact ⟨rfl, rfl, rfl, trivial⟩) K
  refine WL.nil ?_
  refine WT.cond rfl (fun c3 => ?_) (fun c3 => ?_)
  ·replace h := ite_t h c3
   refine sr <| lq (q_assign rfl) rfl <| WL.nil ?_
   refine WT.ret Tryz.func133 (resOk.one rfl) (fun w1 hw => ?_)
   subst hb0
   cases h
   exact post_of_St hw
  replace h := ite_f h c3
  refine WT.skip <| sr <| lq (q_move rfl) rfl <| lq (q_move rfl) rfl ?_
  obtain ⟨x2, hx2, h⟩ := bind_some h
  obtain ⟨cs2, F2, -, g2, hb2, hs2, r2⟩ := ph0.el (idx_some hx2).2.2
  obtain ⟨v2, G2, rfl, hq2, h2⟩ := r2
  obtain rfl := hq2.symm
  refine lq (q_indexAddr Sl_45 rfl rfl ph0 hx2) rfl <| lq (q_loadN Tn_114 rfl (fun w1 hw => (g2.of_eq 0 3 rfl rfl : rg _ _ _ [.string x2.Kind, v2, .bool x2.Not]).rangeAt hw.fro) rfl) rfl ?_
  obtain ⟨x3, hx3, h⟩ := bind_some h
  refine lp (p_call Fun_191 rfl (fun w1 hw => m_s_PatOk_ok hw.fro N x2 h2 hx3)) rfl <| lq (q_not rfl) rfl <| lq (q_move rfl) rfl ?_
  obtain ⟨b2, hb_2, h⟩ := bind_some h
  refine WL.cutN 10 [(36, .bool b2), (0, pv0), (3, .int .i64 s1)] ?_ (fun K => ?_)
  rotate_left
  ·refine WL.split (d := 26) rfl (fun c4 => ?_) (fun c4 => ?_)
   ·replace hb_2 := ite_t hb_2 c4
    refine WL.no rfl rfl rfl rfl <| WL.no rfl rfl rfl rfl <| WL.no rfl rfl rfl rfl <| WL.nox rfl rfl rfl rfl <| WL.nox rfl rfl rfl rfl <| WL.nox rfl rfl rfl rfl <| WL.nox rfl rfl rfl rfl <| WL.nox rfl rfl rfl rfl <| WL.no rfl rfl rfl rfl <| WL.q (q_pick1 rfl rfl) rfl rfl rfl ?_
    cases hb_2
    exact WL.keep (by exact ⟨rfl, rfl, rfl, trivial⟩) K
   ·replace hb_2 := ite_f hb_2 c4
    refine WL.yes rfl rfl <| lq (q_move rfl) rfl <| WL.yes rfl rfl <| lq (q_eql rfl rfl) rfl <| WL.yes rfl rfl <| lq (q_move rfl) rfl ?_
    obtain ⟨b3, hb_3, hb_2⟩ := bind_some hb_2
    refine WL.cutN 6 [(35, .bool b3), (0, pv0), (3, .int .i64 s1), (26, .bool false)] ?_ (fun K => ?_)
    rotate_left
    ·refine WL.split (d := 29) rfl (fun c5 => ?_) (fun c5 => ?_)
     ·replace hb_3 := ite_t hb_3 c5
      refine WL.yes rfl rfl <| lq (q_move rfl) rfl <| WL.yes rfl rfl <| lq (q_move rfl) rfl <| WL.yes rfl rfl ?_
      obtain ⟨x4, hx4, hb_3⟩ := bind_some hb_3
      obtain ⟨cs3, F3, -, g3, hb3, hs3, r3⟩ := ph0.el (idx_some hx4).2.2
      obtain ⟨v3, G3, rfl, hq3, h3⟩ := r3
      obtain rfl := hq3.symm
      refine lq (q_indexAddr Sl_45 rfl rfl ph0 hx4) rfl <| WL.yes rfl rfl <| lq (q_fieldAddr Fld_114_2 rfl) rfl <| WL.yes rfl rfl <| lq (q_load1 T1_4 rfl (fun w1 hw => (g3.of_eq 2 1 rfl rfl : rg _ _ _ [.bool x4.Not]).rangeAt hw.fro)) rfl <| WL.yes rfl rfl <| WL.q (q_pick1 rfl rfl) rfl rfl rfl ?_
      cases hb_3
      exact WL.keep (by exact ⟨rfl, rfl, rfl, rfl, trivial⟩) K
     ·replace hb_3 := ite_f hb_3 c5
      refine WL.no rfl rfl rfl rfl <| WL.no rfl rfl rfl rfl <| WL.no rfl rfl rfl rfl <| WL.no rfl rfl rfl rfl <| WL.no rfl rfl rfl rfl <| WL.yes rfl rfl <| WL.q (q_pick0 rfl rfl) rfl rfl rfl ?_
      cases hb_3
      exact WL.keep (by exact ⟨rfl, rfl, rfl, rfl, trivial⟩) K
    refine WL.q (q_pick0 rfl rfl) rfl rfl rfl ?_
    cases hb_2
    exact WL.keep (by exact ⟨rfl, rfl, rfl, trivial⟩) K
  refine lq (q_move rfl) rfl ?_
  obtain ⟨b4, hb_4, h⟩ := bind_some h
  refine WL.cutN 19 [(56, .bool b4), (0, pv0), (3, .int .i64 s1)] ?_ (fun K => ?_)
  rotate_left
  ·refine WL.split (d := 37) rfl (fun c6 => ?_) (fun c6 => ?_)
   ·replace hb_4 := ite_t hb_4 c6
    refine WL.no rfl rfl rfl rfl <| WL.no rfl rfl rfl rfl <| WL.no rfl rfl rfl rfl <| WL.nox rfl rfl rfl rfl <| WL.nox rfl rfl rfl rfl <| WL.nox rfl rfl rfl rfl <| WL.nox rfl rfl rfl rfl <| WL.nox rfl rfl rfl rfl <| WL.nox rfl rfl rfl rfl <| WL.no rfl rfl rfl rfl <| WL.no rfl rfl rfl rfl <| WL.nox rfl rfl rfl rfl <| WL.nox rfl rfl rfl rfl <| WL.nox rfl rfl rfl rfl <| WL.nox rfl rfl rfl rfl <| WL.nox rfl rfl rfl rfl <| WL.nox rfl rfl rfl rfl <| WL.no rfl rfl rfl rfl <| WL.q (q_pick1 rfl rfl) rfl rfl rfl ?_
    cases hb_4
    exact WL.keep (by exact ⟨rfl, rfl, rfl, trivial⟩) K
   ·replace hb_4 := ite_f hb_4 c6
    refine WL.yes rfl rfl <| lq (q_move rfl) rfl <| WL.yes rfl rfl <| lq (q_gtr rfl rfl) rfl <| WL.yes rfl rfl <| lq (q_move rfl) rfl ?_
    obtain ⟨b5, hb_5, hb_4⟩ := bind_some hb_4
    refine WL.cutN 7 [(47, .bool b5), (0, pv0), (3, .int .i64 s1), (37, .bool false)] ?_ (fun K => ?_)
    rotate_left
    ·refine WL.split (d := 40) rfl (fun c7 => ?_) (fun c7 => ?_)
     ·replace hb_5 := ite_t hb_5 c7
      refine WL.yes rfl rfl <| lq (q_move rfl) rfl <| WL.yes rfl rfl <| lq (q_move rfl) rfl <| WL.yes rfl rfl <| lq (q_sub rfl rfl) rfl <| WL.yes rfl rfl ?_
      obtain ⟨x5, hx5, hb_5⟩ := bind_some hb_5
      obtain ⟨cs4, F4, -, g4, hb4, hs4, r4⟩ := ph0.el (idx_some hx5).2.2
      obtain ⟨v4, G4, rfl, hq4, h4⟩ := r4
      obtain rfl := hq4.symm
      refine lq (q_indexAddr Sl_45 rfl rfl ph0 hx5) rfl <| WL.yes rfl rfl <| lq (q_fieldAddr Fld_114_2 rfl) rfl <| WL.yes rfl rfl <| lq (q_load1 T1_4 rfl (fun w1 hw => (g4.of_eq 2 1 rfl rfl : rg _ _ _ [.bool x5.Not]).rangeAt hw.fro)) rfl <| WL.yes rfl rfl <| WL.q (q_pick1 rfl rfl) rfl rfl rfl ?_
      cases hb_5
      exact WL.keep (by exact ⟨rfl, rfl, rfl, rfl, trivial⟩) K
     ·replace hb_5 := ite_f hb_5 c7
      refine WL.no rfl rfl rfl rfl <| WL.no rfl rfl rfl rfl <| WL.no rfl rfl rfl rfl <| WL.no rfl rfl rfl rfl <| WL.no rfl rfl rfl rfl <| WL.no rfl rfl rfl rfl <| WL.yes rfl rfl <| WL.q (q_pick0 rfl rfl) rfl rfl rfl ?_
      cases hb_5
      exact WL.keep (by exact ⟨rfl, rfl, rfl, rfl, trivial⟩) K
    refine WL.yes rfl rfl <| lq (q_move rfl) rfl ?_
    obtain ⟨b6, hb_6, hb_4⟩ := bind_some hb_4
    refine WL.cutN 7 [(55, .bool b6), (0, pv0), (3, .int .i64 s1), (37, .bool false)] ?_ (fun K => ?_)
    rotate_left
    ·refine WL.split (d := 48) rfl (fun c8 => ?_) (fun c8 => ?_)
     ·replace hb_6 := ite_t hb_6 c8
      refine WL.yes rfl rfl <| lq (q_move rfl) rfl <| WL.yes rfl rfl <| lq (q_move rfl) rfl <| WL.yes rfl rfl ?_
      obtain ⟨x6, hx6, hb_6⟩ := bind_some hb_6
      obtain ⟨cs5, F5, -, g5, hb5, hs5, r5⟩ := ph0.el (idx_some hx6).2.2
      obtain ⟨v5, G5, rfl, hq5, h5⟩ := r5
      obtain rfl := hq5.symm
      refine lq (q_indexAddr Sl_45 rfl rfl ph0 hx6) rfl <| WL.yes rfl rfl <| lq (q_fieldAddr Fld_114_2 rfl) rfl <| WL.yes rfl rfl <| lq (q_load1 T1_4 rfl (fun w1 hw => (g5.of_eq 2 1 rfl rfl : rg _ _ _ [.bool x6.Not]).rangeAt hw.fro)) rfl <| WL.yes rfl rfl <| lq (q_not rfl) rfl <| WL.yes rfl rfl <| WL.q (q_pick1 rfl rfl) rfl rfl rfl ?_
      cases hb_6
      exact WL.keep (by exact ⟨rfl, rfl, rfl, rfl, trivial⟩) K
     ·replace hb_6 := ite_f hb_6 c8
      refine WL.no rfl rfl rfl rfl <| WL.no rfl rfl rfl rfl <| WL.no rfl rfl rfl rfl <| WL.no rfl rfl rfl rfl <| WL.no rfl rfl rfl rfl <| WL.no rfl rfl rfl rfl <| WL.yes rfl rfl <| WL.q (q_pick0 rfl rfl) rfl rfl rfl ?_
      cases hb_6
      exact WL.keep (by exact ⟨rfl, rfl, rfl, rfl, trivial⟩) K
    refine WL.q (q_pick0 rfl rfl) rfl rfl rfl ?_
    cases hb_4
    exact WL.keep (by exact ⟨rfl, rfl, rfl, trivial⟩) K
  refine WL.nil ?_
  refine WT.cond rfl (fun c9 => ?_) (fun c9 => ?_)
  ·replace h := ite_t h c9
   refine sr <| lq (q_assign rfl) rfl <| WL.nil ?_
   refine WT.ret Tryz.func133 (resOk.one rfl) (fun w1 hw => ?_)
   subst hb0
   cases h
   exact post_of_St hw
  replace h := ite_f h c9
  refine WT.skip <| WT.inBlock <| WT.region <| lq (q_move rfl) rfl <| lq (q_add rfl rfl) rfl <| lq (q_assign rfl) rfl <| WL.nil ?_
  refine WT.inLoop (WT.mono (l' := [(0, pv0), (3, .int .i64 (IntKind.i64.wrap (s1 + 1)))]) (S' := St w0 Φ [] []) ⟨rfl, rfl, trivial⟩ (fun w1 hw => (hw.sel (js := []) rfl).selO (js := []) rfl) ?_)
  exact ih1 (IntKind.i64.wrap (s1 + 1)) h
 replace h := ite_f h c1
 refine WT.exit rfl <| sr <| lq (q_move rfl) rfl <| lq (q_lenR Sl_45 rfl rfl ph0) rfl ?_
 obtain ⟨x7, hx7, h⟩ := bind_some h
 refine lp (p_call Fun_85 rfl (fun w1 hw => m_s_l1In_ok hw.fro N (p0.length : Int) 1 6 hx7)) rfl <| lq (q_assign rfl) rfl <| WL.nil ?_
 refine WT.ret Tryz.func133 (resOk.one rfl) (fun w1 hw => ?_)
 subst hb0
 cases h
 exact post_of_St hw
theorem m_s_CondOk_ok {Φ : Hp} {w : World} (hΦ : In Φ w) (N : Nat) (p0 : TCond)   {r : Bool} (h : m_s_CondOk N p0 = some r) :
  Calls Tryz.prog 192 [.agg [.int .i64 p0.Op, .int .i64 p0.L.K, .string p0.L.S, .int .i64 p0.L.V.K, .int .i64 p0.L.V.N, .string p0.L.V.S, .int .i64 p0.R.K, .string p0.R.S, .int .i64 p0.R.V.K, .int .i64 p0.R.V.N, .string p0.R.V.S].toArray].toArray w (Post (.bool r) w) := by
 refine enter Tryz.func192 rfl Tryz.ntmps192 rfl (St.start0 hΦ) ?_
 unfold m_s_CondOk at h
 refine WT.seq <| WT.region ?_
 refine ln (n_box (C := #[.int .i64 p0.Op, .int .i64 p0.L.K, .string p0.L.S, .int .i64 p0.L.V.K, .int .i64 p0.L.V.N, .string p0.L.V.S, .int .i64 p0.R.K, .string p0.R.S, .int .i64 p0.R.V.K, .int .i64 p0.R.V.N, .string p0.R.V.S]) rfl rfl) rfl (fun b_1 => ?_)
 refine lq (q_assign rfl) rfl <| WL.nil <| sr <| lq (q_fieldAddr Fld_128_0 rfl) rfl <| lq (q_load1 T1_3 rfl (fun w1 hw => hw.rgO (i := 0) rfl 0 1 [.int .i64 p0.Op] rfl)) rfl ?_
 obtain ⟨x1, hx1, h⟩ := bind_some h
 refine lp (p_call Fun_85 rfl (fun w1 hw => m_s_l1In_ok hw.fro N p0.Op 1 3 hx1)) rfl <| lq (q_move rfl) rfl ?_
 obtain ⟨b1, hb_1, h⟩ := bind_some h
 refine WL.cutN 4 [(10, .bool b1), (1, .pointer (some ⟨b_1, 0, none⟩)), (2, .bool false)] ?_ (fun K => ?_)
 rotate_left
 ·refine WL.split (d := 6) rfl (fun c1 => ?_) (fun c1 => ?_)
  ·replace hb_1 := ite_t hb_1 c1
   refine WL.yes rfl rfl <| lq (q_fieldAddr Fld_128_1 rfl) rfl <| WL.yes rfl rfl <| lq (q_loadN Tn_126 rfl (fun w1 hw => hw.rgO (i := 0) rfl 1 5 [.int .i64 p0.L.K, .string p0.L.S, .int .i64 p0.L.V.K, .int .i64 p0.L.V.N, .string p0.L.V.S] rfl) rfl) rfl <| WL.yes rfl rfl ?_
   obtain ⟨x2, hx2, hb_1⟩ := bind_some hb_1
   refine lp (p_call Fun_221 rfl (fun w1 hw => m_s_ArgOk_ok hw.fro N p0.L hx2)) rfl <| WL.q (q_pick1 rfl rfl) rfl rfl rfl ?_
   cases hb_1
   exact WL.keep (by exact ⟨rfl, rfl, rfl, trivial⟩) K
  ·replace hb_1 := ite_f hb_1 c1
   refine WL.no rfl rfl rfl rfl <| WL.no rfl rfl rfl rfl <| WL.no rfl rfl rfl rfl <| WL.q (q_pick0 rfl rfl) rfl rfl rfl ?_
   cases hb_1
   exact WL.keep (by exact ⟨rfl, rfl, rfl, trivial⟩) K
 refine lq (q_move rfl) rfl ?_
 obtain ⟨b2, hb_2, h⟩ := bind_some h
 refine WL.cutN 4 [(15, .bool b2), (1, .pointer (some ⟨b_1, 0, none⟩)), (2, .bool false)] ?_ (fun K => ?_)
 rotate_left
 ·refine WL.split (d := 11) rfl (fun c2 => ?_) (fun c2 => ?_)
  ·replace hb_2 := ite_t hb_2 c2
   refine WL.yes rfl rfl <| lq (q_fieldAddr Fld_128_2 rfl) rfl <| WL.yes rfl rfl <| lq (q_loadN Tn_126 rfl (fun w1 hw => hw.rgO (i := 0) rfl 6 5 [.int .i64 p0.R.K, .string p0.R.S, .int .i64 p0.R.V.K, .int .i64 p0.R.V.N, .string p0.R.V.S] rfl) rfl) rfl <| WL.yes rfl rfl ?_
   obtain ⟨x3, hx3, hb_2⟩ := bind_some hb_2
   refine lp (p_call Fun_221 rfl (fun w1 hw => m_s_ArgOk_ok hw.fro N p0.R hx3)) rfl <| WL.q (q_pick1 rfl rfl) rfl rfl rfl ?_
   cases hb_2
   exact WL.keep (by exact ⟨rfl, rfl, rfl, trivial⟩) K
  ·replace hb_2 := ite_f hb_2 c2
   refine WL.no rfl rfl rfl rfl <| WL.no rfl rfl rfl rfl <| WL.no rfl rfl rfl rfl <| WL.q (q_pick0 rfl rfl) rfl rfl rfl ?_
   cases hb_2
   exact WL.keep (by exact ⟨rfl, rfl, rfl, trivial⟩) K
 refine lq (q_move rfl) rfl ?_
 obtain ⟨b3, hb_3, h⟩ := bind_some h
 refine WL.cutN 5 [(21, .bool b3), (1, .pointer (some ⟨b_1, 0, none⟩)), (2, .bool false)] ?_ (fun K => ?_)
 rotate_left
 ·refine WL.split (d := 16) rfl (fun c3 => ?_) (fun c3 => ?_)
  ·replace hb_3 := ite_t hb_3 c3
   refine WL.yes rfl rfl <| lq (q_fieldAddr Fld_128_1 rfl) rfl <| WL.yes rfl rfl <| lq (q_fieldAddr Fld_126_0 rfl) rfl <| WL.yes rfl rfl <| lq (q_load1 T1_3 rfl (fun w1 hw => hw.rgO (i := 0) rfl 1 1 [.int .i64 p0.L.K] rfl)) rfl <| WL.yes rfl rfl <| lq (q_neq rfl rfl) rfl <| WL.q (q_pick1 rfl rfl) rfl rfl rfl ?_
   cases hb_3
   exact WL.keep (by exact ⟨rfl, rfl, rfl, trivial⟩) K
  ·replace hb_3 := ite_f hb_3 c3
   refine WL.no rfl rfl rfl rfl <| WL.no rfl rfl rfl rfl <| WL.no rfl rfl rfl rfl <| WL.no rfl rfl rfl rfl <| WL.q (q_pick0 rfl rfl) rfl rfl rfl ?_
   cases hb_3
   exact WL.keep (by exact ⟨rfl, rfl, rfl, trivial⟩) K
 refine lq (q_move rfl) rfl ?_
 obtain ⟨b4, hb_4, h⟩ := bind_some h
 refine WL.cutN 5 [(27, .bool b4), (2, .bool false)] ?_ (fun K => ?_)
 rotate_left
 ·refine WL.split (d := 22) rfl (fun c4 => ?_) (fun c4 => ?_)
  ·replace hb_4 := ite_t hb_4 c4
   refine WL.yes rfl rfl <| lq (q_fieldAddr Fld_128_2 rfl) rfl <| WL.yes rfl rfl <| lq (q_fieldAddr Fld_126_0 rfl) rfl <| WL.yes rfl rfl <| lq (q_load1 T1_3 rfl (fun w1 hw => hw.rgO (i := 0) rfl 6 1 [.int .i64 p0.R.K] rfl)) rfl <| WL.yes rfl rfl <| lq (q_neq rfl rfl) rfl <| WL.q (q_pick1 rfl rfl) rfl rfl rfl ?_
   cases hb_4
   exact WL.keep (by exact ⟨rfl, rfl, trivial⟩) K
  ·replace hb_4 := ite_f hb_4 c4
   refine WL.no rfl rfl rfl rfl <| WL.no rfl rfl rfl rfl <| WL.no rfl rfl rfl rfl <| WL.no rfl rfl rfl rfl <| WL.q (q_pick0 rfl rfl) rfl rfl rfl ?_
   cases hb_4
   exact WL.keep (by exact ⟨rfl, rfl, trivial⟩) K
 refine lq (q_assign rfl) rfl <| WL.nil ?_
 refine WT.ret Tryz.func192 (resOk.one rfl) (fun w1 hw => ?_)
 cases h
 exact post_of_St hw
theorem m_s_l9Conds_ok {Φ : Hp} {w : World} (hΦ : In Φ w) (N : Nat) (p0 : (List TCond)) (p1 : (List ByteArray)) {pv0 : Value} {pG0 : List Nat} {pv1 : Value} {pG1 : List Nat} (ph0 : RSl RTCond 11 Φ pG0 pv0 p0) (ph1 : RSl RS 1 Φ pG1 pv1 p1) {r : Bool} (h : m_s_l9Conds N p0 p1 = some r) :
  Calls Tryz.prog 134 [pv0, pv1].toArray w (Post (.bool r) w) := by
 refine enter Tryz.func134 rfl Tryz.ntmps134 rfl (St.start0 hΦ) ?_
 generalize hb0 : (⟨w, [], Φ⟩ : Base) = w0
 unfold m_s_l9Conds at h
 refine sr <| lq (q_assign rfl) rfl <| WL.nil <| WT.seq <| sr <| lq (q_assign rfl) rfl <| WL.nil <| WT.block <| WT.loop <| WT.mono (l' := [(0, pv0), (1, pv1), (5, .int .i64 0)]) (S' := St w0 Φ [] []) ⟨rfl, rfl, rfl, trivial⟩ (fun w1 hw => (hw.sel (js := []) rfl).selO (js := []) rfl) ?_
 refine loop_ind (σ := Int) (fun s => [(0, pv0), (1, pv1), (5, .int .i64 s)]) (fun s => St w0 Φ [] []) (fun m s => m_s_l9Conds_l1 N p0 p1 m s = some r) (fun s hm => none_ne (show (none : Option (Bool)) = some r from hm)) (fun n1 ih1 s hm => ?_) N (0) h
 revert hm; revert s; intro s1 hm
 have h : m_s_l9Conds_l1 N p0 p1 (n1 + 1) s1 = some r := hm
 show WT _ _ [(0, pv0), (1, pv1), (5, .int .i64 s1)] (St w0 Φ [] [])
 unfold m_s_l9Conds_l1 at h
 refine WT.seq <| sr <| lq (q_move rfl) rfl <| lq (q_move rfl) rfl <| lq (q_lenR Sl_46 rfl rfl ph0) rfl <| lq (q_lss rfl rfl) rfl <| WL.nil ?_
 refine WT.cond rfl (fun c1 => ?_) (fun c1 => ?_)
 ·replace h := ite_t h c1
  refine WT.skip <| WT.seq <| WT.block <| sr <| lq (q_move rfl) rfl <| lq (q_move rfl) rfl ?_
  obtain ⟨x1, hx1, h⟩ := bind_some h
  obtain ⟨cs1, F1, -, g1, hb1, hs1, r1⟩ := ph0.el (idx_some hx1).2.2
  obtain ⟨rfl, -⟩ := r1
  refine lq (q_indexAddr Sl_46 rfl rfl ph0 hx1) rfl <| lq (q_loadN Tn_128 rfl (fun w1 hw => (g1.of_eq 0 11 rfl rfl : rg _ _ _ [.int .i64 x1.Op, .int .i64 x1.L.K, .string x1.L.S, .int .i64 x1.L.V.K, .int .i64 x1.L.V.N, .string x1.L.V.S, .int .i64 x1.R.K, .string x1.R.S, .int .i64 x1.R.V.K, .int .i64 x1.R.V.N, .string x1.R.V.S]).rangeAt hw.fro) rfl) rfl ?_
  obtain ⟨x2, hx2, h⟩ := bind_some h
  refine lp (p_call Fun_192 rfl (fun w1 hw => m_s_CondOk_ok hw.fro N x1 hx2)) rfl <| lq (q_not rfl) rfl <| lq (q_move rfl) rfl ?_
  obtain ⟨b1, hb_1, h⟩ := bind_some h
  refine WL.cutN 9 [(27, .bool b1), (0, pv0), (1, pv1), (5, .int .i64 s1)] ?_ (fun K => ?_)
  rotate_left
  ·refine WL.split (d := 18) rfl (fun c2 => ?_) (fun c2 => ?_)
   ·replace hb_1 := ite_t hb_1 c2
    refine WL.no rfl rfl rfl rfl <| WL.no rfl rfl rfl rfl <| WL.no rfl rfl rfl rfl <| WL.no rfl rfl rfl rfl <| WL.no rfl rfl rfl rfl <| WL.no rfl rfl rfl rfl <| WL.no rfl rfl rfl rfl <| WL.no rfl rfl rfl rfl <| WL.q (q_pick1 rfl rfl) rfl rfl rfl ?_
    cases hb_1
    exact WL.keep (by exact ⟨rfl, rfl, rfl, rfl, trivial⟩) K
   ·replace hb_1 := ite_f hb_1 c2
    refine WL.yes rfl rfl <| lq (q_move rfl) rfl <| WL.yes rfl rfl <| lq (q_move rfl) rfl <| WL.yes rfl rfl ?_
    obtain ⟨x3, hx3, hb_1⟩ := bind_some hb_1
    obtain ⟨cs2, F2, -, g2, hb2, hs2, r2⟩ := ph0.el (idx_some hx3).2.2
    obtain ⟨rfl, -⟩ := r2
    refine lq (q_indexAddr Sl_46 rfl rfl ph0 hx3) rfl <| WL.yes rfl rfl <| lq (q_fieldAddr Fld_128_1 rfl) rfl <| WL.yes rfl rfl <| lq (q_loadN Tn_126 rfl (fun w1 hw => (g2.of_eq 1 5 rfl rfl : rg _ _ _ [.int .i64 x3.L.K, .string x3.L.S, .int .i64 x3.L.V.K, .int .i64 x3.L.V.N, .string x3.L.V.S]).rangeAt hw.fro) rfl) rfl <| WL.yes rfl rfl <| lq (q_move rfl) rfl <| WL.yes rfl rfl ?_
    obtain ⟨x4, hx4, hb_1⟩ := bind_some hb_1
    refine lp (p_call Fun_179 rfl (fun w1 hw => m_s_l9Known_ok hw.fro N x3.L p1 ph1 hx4)) rfl <| WL.yes rfl rfl <| lq (q_not rfl) rfl <| WL.q (q_pick0 rfl rfl) rfl rfl rfl ?_
    cases hb_1
    exact WL.keep (by exact ⟨rfl, rfl, rfl, rfl, trivial⟩) K
  refine lq (q_move rfl) rfl ?_
  obtain ⟨b2, hb_2, h⟩ := bind_some h
  refine WL.cutN 9 [(37, .bool b2), (0, pv0), (1, pv1), (5, .int .i64 s1)] ?_ (fun K => ?_)
  rotate_left
  ·refine WL.split (d := 28) rfl (fun c3 => ?_) (fun c3 => ?_)
   ·replace hb_2 := ite_t hb_2 c3
    refine WL.no rfl rfl rfl rfl <| WL.no rfl rfl rfl rfl <| WL.no rfl rfl rfl rfl <| WL.no rfl rfl rfl rfl <| WL.no rfl rfl rfl rfl <| WL.no rfl rfl rfl rfl <| WL.no rfl rfl rfl rfl <| WL.no rfl rfl rfl rfl <| WL.q (q_pick1 rfl rfl) rfl rfl rfl ?_
    cases hb_2
    exact WL.keep (by exact ⟨rfl, rfl, rfl, rfl, trivial⟩) K
   ·replace hb_2 := ite_f hb_2 c3
    refine WL.yes rfl rfl <| lq (q_move rfl) rfl <| WL.yes rfl rfl <| lq (q_move rfl) rfl <| WL.yes rfl rfl ?_
    obtain ⟨x5, hx5, hb_2⟩ := bind_some hb_2
    obtain ⟨cs3, F3, -, g3, hb3, hs3, r3⟩ := ph0.el (idx_some hx5).2.2
    obtain ⟨rfl, -⟩ := r3
    refine lq (q_indexAddr Sl_46 rfl rfl ph0 hx5) rfl <| WL.yes rfl rfl <| lq (q_fieldAddr Fld_128_2 rfl) rfl <| WL.yes rfl rfl <| lq (q_loadN Tn_126 rfl (fun w1 hw => (g3.of_eq 6 5 rfl rfl : rg _ _ _ [.int .i64 x5.R.K, .string x5.R.S, .int .i64 x5.R.V.K, .int .i64 x5.R.V.N, .string x5.R.V.S]).rangeAt hw.fro) rfl) rfl <| WL.yes rfl rfl <| lq (q_move rfl) rfl <| WL.yes rfl rfl ?_
    obtain ⟨x6, hx6, hb_2⟩ := bind_some hb_2
    refine lp (p_call Fun_179 rfl (fun w1 hw => m_s_l9Known_ok hw.fro N x5.R p1 ph1 hx6)) rfl <| WL.yes rfl rfl <| lq (q_not rfl) rfl <| WL.q (q_pick0 rfl rfl) rfl rfl rfl ?_
    cases hb_2
    exact WL.keep (by exact ⟨rfl, rfl, rfl, rfl, trivial⟩) K
  refine WL.nil ?_
  refine WT.cond rfl (fun c4 => ?_) (fun c4 => ?_)
  ·replace h := ite_t h c4
   refine sr <| lq (q_assign rfl) rfl <| WL.nil ?_
   refine WT.ret Tryz.func134 (resOk.one rfl) (fun w1 hw => ?_)
   subst hb0
   cases h
   exact post_of_St hw
  replace h := ite_f h c4
  refine WT.skip <| WT.inBlock <| WT.region <| lq (q_move rfl) rfl <| lq (q_add rfl rfl) rfl <| lq (q_assign rfl) rfl <| WL.nil ?_
  refine WT.inLoop (WT.mono (l' := [(0, pv0), (1, pv1), (5, .int .i64 (IntKind.i64.wrap (s1 + 1)))]) (S' := St w0 Φ [] []) ⟨rfl, rfl, rfl, trivial⟩ (fun w1 hw => (hw.sel (js := []) rfl).selO (js := []) rfl) ?_)
  exact ih1 (IntKind.i64.wrap (s1 + 1)) h
 replace h := ite_f h c1
 refine WT.exit rfl <| sr <| lq (q_move rfl) rfl <| lq (q_lenR Sl_46 rfl rfl ph0) rfl <| lq (q_leq rfl rfl) rfl <| lq (q_assign rfl) rfl <| WL.nil ?_
 refine WT.ret Tryz.func134 (resOk.one rfl) (fun w1 hw => ?_)
 subst hb0
 cases h
 exact post_of_St hw
theorem m_s_l8Given_ok {Φ : Hp} {w : World} (hΦ : In Φ w) (N : Nat) (p0 : TArg)   {r : Bool} (h : m_s_l8Given N p0 = some r) :
  Calls Tryz.prog 255 [.agg [.int .i64 p0.K, .string p0.S, .int .i64 p0.V.K, .int .i64 p0.V.N, .string p0.V.S].toArray].toArray w (Post (.bool r) w) := by
 refine enter Tryz.func255 rfl Tryz.ntmps255 rfl (St.start0 hΦ) ?_
 unfold m_s_l8Given at h
 refine WT.seq <| WT.region ?_
 refine ln (n_box (C := #[.int .i64 p0.K, .string p0.S, .int .i64 p0.V.K, .int .i64 p0.V.N, .string p0.V.S]) rfl rfl) rfl (fun b_1 => ?_)
 refine lq (q_assign rfl) rfl <| WL.nil <| sr <| lq (q_loadN Tn_126 rfl (fun w1 hw => hw.rgO (i := 0) rfl 0 5 [.int .i64 p0.K, .string p0.S, .int .i64 p0.V.K, .int .i64 p0.V.N, .string p0.V.S] rfl) rfl) rfl ?_
 obtain ⟨x1, hx1, h⟩ := bind_some h
 refine lp (p_call Fun_221 rfl (fun w1 hw => m_s_ArgOk_ok hw.fro N p0 hx1)) rfl <| lq (q_move rfl) rfl ?_
 obtain ⟨b1, hb_1, h⟩ := bind_some h
 refine WL.cutN 4 [(9, .bool b1), (2, .bool false)] ?_ (fun K => ?_)
 rotate_left
 ·refine WL.split (d := 5) rfl (fun c1 => ?_) (fun c1 => ?_)
  ·replace hb_1 := ite_t hb_1 c1
   refine WL.yes rfl rfl <| lq (q_fieldAddr Fld_126_0 rfl) rfl <| WL.yes rfl rfl <| lq (q_load1 T1_3 rfl (fun w1 hw => hw.rgO (i := 0) rfl 0 1 [.int .i64 p0.K] rfl)) rfl <| WL.yes rfl rfl <| lq (q_neq rfl rfl) rfl <| WL.q (q_pick1 rfl rfl) rfl rfl rfl ?_
   cases hb_1
   exact WL.keep (by exact ⟨rfl, rfl, trivial⟩) K
  ·replace hb_1 := ite_f hb_1 c1
   refine WL.no rfl rfl rfl rfl <| WL.no rfl rfl rfl rfl <| WL.no rfl rfl rfl rfl <| WL.q (q_pick0 rfl rfl) rfl rfl rfl ?_
   cases hb_1
   exact WL.keep (by exact ⟨rfl, rfl, trivial⟩) K
 refine lq (q_assign rfl) rfl <| WL.nil ?_
 refine WT.ret Tryz.func255 (resOk.one rfl) (fun w1 hw => ?_)
 cases h
 exact post_of_St hw
theorem m_s_ExprOk_ok {Φ : Hp} {w : World} (hΦ : In Φ w) (N : Nat) (p0 : TExpr)   {r : Bool} (h : m_s_ExprOk N p0 = some r) :
  Calls Tryz.prog 242 [.agg [.string p0.Op, .int .i64 p0.L.K, .string p0.L.S, .int .i64 p0.L.V.K, .int .i64 p0.L.V.N, .string p0.L.V.S, .int .i64 p0.R.K, .string p0.R.S, .int .i64 p0.R.V.K, .int .i64 p0.R.V.N, .string p0.R.V.S].toArray].toArray w (Post (.bool r) w) := by
 refine enter Tryz.func242 rfl Tryz.ntmps242 rfl (St.start0 hΦ) ?_
 generalize hb0 : (⟨w, [], Φ⟩ : Base) = w0
 unfold m_s_ExprOk at h
 refine WT.seq <| WT.region ?_
 refine ln (n_box (C := #[.string p0.Op, .int .i64 p0.L.K, .string p0.L.S, .int .i64 p0.L.V.K, .int .i64 p0.L.V.N, .string p0.L.V.S, .int .i64 p0.R.K, .string p0.R.S, .int .i64 p0.R.V.K, .int .i64 p0.R.V.N, .string p0.R.V.S]) rfl rfl) rfl (fun b_1 => ?_)
 refine lq (q_assign rfl) rfl <| WL.nil <| WT.seq <| sr <| lq (q_fieldAddr Fld_175_0 rfl) rfl <| lq (q_load1 T1_9 rfl (fun w1 hw => hw.rgO (i := 0) rfl 0 1 [.string p0.Op] rfl)) rfl <| WL.nil <| WT.block <| sr <| lq (q_seq rfl rfl) rfl <| lq (q_assign rfl) rfl <| WL.nil ?_
 refine WT.cond rfl (fun c1 => ?_) (fun c1 => ?_)
 ·replace h := ite_t h c1
  refine sr <| lq (q_fieldAddr Fld_175_1 rfl) rfl <| lq (q_loadN Tn_126 rfl (fun w1 hw => hw.rgO (i := 0) rfl 1 5 [.int .i64 p0.L.K, .string p0.L.S, .int .i64 p0.L.V.K, .int .i64 p0.L.V.N, .string p0.L.V.S] rfl) rfl) rfl ?_
  obtain ⟨x1, hx1, h⟩ := bind_some h
  refine lp (p_call Fun_255 rfl (fun w1 hw => m_s_l8Given_ok hw.fro N p0.L hx1)) rfl <| lq (q_move rfl) rfl ?_
  obtain ⟨b1, hb_1, h⟩ := bind_some h
  refine WL.cutN 5 [(15, .bool b1), (2, .bool false)] ?_ (fun K => ?_)
  rotate_left
  ·refine WL.split (d := 10) rfl (fun c2 => ?_) (fun c2 => ?_)
   ·replace hb_1 := ite_t hb_1 c2
    refine WL.yes rfl rfl <| lq (q_fieldAddr Fld_175_2 rfl) rfl <| WL.yes rfl rfl <| lq (q_loadN Tn_126 rfl (fun w1 hw => hw.rgO (i := 0) rfl 6 5 [.int .i64 p0.R.K, .string p0.R.S, .int .i64 p0.R.V.K, .int .i64 p0.R.V.N, .string p0.R.V.S] rfl) rfl) rfl <| WL.yes rfl rfl <| lq (q_build (vs := []) (C := #[.int .i64 0, .string eS, .int .i64 0, .int .i64 0, .string eS]) Pl_126 Zr_126 rfl (fill_nil)) rfl ?_
    refine WL.yes rfl rfl <| lq (q_eqA EqT_126 rfl rfl rfl (r := eqT_TArg p0.R (⟨0, eS, (⟨0, 0, eS⟩ : TVal)⟩ : TArg)) rfl) rfl <| WL.q (q_pick1 rfl rfl) rfl rfl rfl ?_
    cases hb_1
    exact WL.keep (by exact ⟨rfl, rfl, trivial⟩) K
   ·replace hb_1 := ite_f hb_1 c2
    refine WL.no rfl rfl rfl rfl <| WL.no rfl rfl rfl rfl <| WL.no rfl rfl rfl rfl <| WL.no rfl rfl rfl rfl <| WL.q (q_pick0 rfl rfl) rfl rfl rfl ?_
    cases hb_1
    exact WL.keep (by exact ⟨rfl, rfl, trivial⟩) K
  refine lq (q_assign rfl) rfl <| WL.nil ?_
  refine WT.ret Tryz.func242 (resOk.one rfl) (fun w1 hw => ?_)
  subst hb0
  cases h
  exact post_of_St hw
 replace h := ite_f h c1
 refine WT.seq <| sr <| lq (q_seq rfl rfl) rfl <| lq (q_assign rfl) rfl <| WL.nil ?_
 refine cut (σ := Bool) (fun s => [(1, .pointer (some ⟨b_1, 0, none⟩)), (16, .bool s)]) (fun s => St w0 Φ [(b_1, .cells #[.string p0.Op, .int .i64 p0.L.K, .string p0.L.S, .int .i64 p0.L.V.K, .int .i64 p0.L.V.N, .string p0.L.V.S, .int .i64 p0.R.K, .string p0.R.S, .int .i64 p0.R.V.K, .int .i64 p0.R.V.N, .string p0.R.V.S] 175 (0, 0))] []) (fun s => m_s_ExprOk_j1 N p0 s = some r) (fun s hm => ?_) (fun K => ?_)
 ·clear h
  revert hm; revert s; intro s1 hm
  have h : m_s_ExprOk_j1 N p0 s1 = some r := hm
  show WT _ _ [(1, .pointer (some ⟨b_1, 0, none⟩)), (16, .bool s1)] (St w0 Φ [(b_1, .cells #[.string p0.Op, .int .i64 p0.L.K, .string p0.L.S, .int .i64 p0.L.V.K, .int .i64 p0.L.V.N, .string p0.L.V.S, .int .i64 p0.R.K, .string p0.R.S, .int .i64 p0.R.V.K, .int .i64 p0.R.V.N, .string p0.R.V.S] 175 (0, 0))] [])
  unfold m_s_ExprOk_j1 at h
  refine WT.cond rfl (fun c3 => ?_) (fun c3 => ?_)
  ·replace h := ite_t h c3
   refine sr <| lq (q_fieldAddr Fld_175_1 rfl) rfl <| lq (q_loadN Tn_126 rfl (fun w1 hw => hw.rgO (i := 0) rfl 1 5 [.int .i64 p0.L.K, .string p0.L.S, .int .i64 p0.L.V.K, .int .i64 p0.L.V.N, .string p0.L.V.S] rfl) rfl) rfl ?_
   obtain ⟨x2, hx2, h⟩ := bind_some h
   refine lp (p_call Fun_255 rfl (fun w1 hw => m_s_l8Given_ok hw.fro N p0.L hx2)) rfl <| lq (q_move rfl) rfl ?_
   obtain ⟨b2, hb_2, h⟩ := bind_some h
   refine WL.cutN 4 [(26, .bool b2)] ?_ (fun K => ?_)
   rotate_left
   ·refine WL.split (d := 22) rfl (fun c4 => ?_) (fun c4 => ?_)
    ·replace hb_2 := ite_t hb_2 c4
     refine WL.yes rfl rfl <| lq (q_fieldAddr Fld_175_2 rfl) rfl <| WL.yes rfl rfl <| lq (q_loadN Tn_126 rfl (fun w1 hw => hw.rgO (i := 0) rfl 6 5 [.int .i64 p0.R.K, .string p0.R.S, .int .i64 p0.R.V.K, .int .i64 p0.R.V.N, .string p0.R.V.S] rfl) rfl) rfl <| WL.yes rfl rfl ?_
     obtain ⟨x3, hx3, hb_2⟩ := bind_some hb_2
     refine lp (p_call Fun_255 rfl (fun w1 hw => m_s_l8Given_ok hw.fro N p0.R hx3)) rfl <| WL.q (q_pick1 rfl rfl) rfl rfl rfl ?_
     cases hb_2
     exact WL.keep (by exact ⟨rfl, trivial⟩) K
    ·replace hb_2 := ite_f hb_2 c4
     refine WL.no rfl rfl rfl rfl <| WL.no rfl rfl rfl rfl <| WL.no rfl rfl rfl rfl <| WL.q (q_pick0 rfl rfl) rfl rfl rfl ?_
     cases hb_2
     exact WL.keep (by exact ⟨rfl, trivial⟩) K
   refine lq (q_assign rfl) rfl <| WL.nil ?_
   refine WT.ret Tryz.func242 (resOk.one rfl) (fun w1 hw => ?_)
   subst hb0
   cases h
   exact post_of_St hw
  replace h := ite_f h c3
  refine WT.skip <| WT.inBlock <| sr <| lq (q_assign rfl) rfl <| WL.nil ?_
  refine WT.ret Tryz.func242 (resOk.one rfl) (fun w1 hw => ?_)
  subst hb0
  cases h
  exact post_of_St hw
 refine WT.cond rfl (fun c5 => ?_) (fun c5 => ?_)
 ·replace h := ite_t h c5
  refine WT.skip <| WT.mono (l' := [(1, .pointer (some ⟨b_1, 0, none⟩)), (16, .bool (seq p0.Op (⟨#[43]⟩ : ByteArray)))]) (S' := St w0 Φ [(b_1, .cells #[.string p0.Op, .int .i64 p0.L.K, .string p0.L.S, .int .i64 p0.L.V.K, .int .i64 p0.L.V.N, .string p0.L.V.S, .int .i64 p0.R.K, .string p0.R.S, .int .i64 p0.R.V.K, .int .i64 p0.R.V.N, .string p0.R.V.S] 175 (0, 0))] []) ⟨rfl, rfl, trivial⟩ (fun w1 hw => (hw.sel (js := []) rfl).selO (js := [0]) rfl) ?_
  exact K (seq p0.Op (⟨#[43]⟩ : ByteArray)) h
 replace h := ite_f h c5
 refine WT.region <| lq (q_seq rfl rfl) rfl <| lq (q_assign rfl) rfl <| WL.nil <| WT.mono (l' := [(1, .pointer (some ⟨b_1, 0, none⟩)), (16, .bool (seq p0.Op (⟨#[45]⟩ : ByteArray)))]) (S' := St w0 Φ [(b_1, .cells #[.string p0.Op, .int .i64 p0.L.K, .string p0.L.S, .int .i64 p0.L.V.K, .int .i64 p0.L.V.N, .string p0.L.V.S, .int .i64 p0.R.K, .string p0.R.S, .int .i64 p0.R.V.K, .int .i64 p0.R.V.N, .string p0.R.V.S] 175 (0, 0))] []) ⟨rfl, rfl, trivial⟩ (fun w1 hw => (hw.sel (js := []) rfl).selO (js := [0]) rfl) ?_
 exact K (seq p0.Op (⟨#[45]⟩ : ByteArray)) h
theorem m_s_l8Args_ok {Φ : Hp} {w : World} (hΦ : In Φ w) (N : Nat) (p0 : (List TExpr)) {pv0 : Value} {pG0 : List Nat} (ph0 : RSl RTExpr 11 Φ pG0 pv0 p0) {r : Bool} (h : m_s_l8Args N p0 = some r) :
  Calls Tryz.prog 222 [pv0].toArray w (Post (.bool r) w) := by
 refine enter Tryz.func222 rfl Tryz.ntmps222 rfl (St.start0 hΦ) ?_
 generalize hb0 : (⟨w, [], Φ⟩ : Base) = w0
 unfold m_s_l8Args at h
 refine sr <| lq (q_assign rfl) rfl <| WL.nil <| WT.seq <| sr <| lq (q_assign rfl) rfl <| WL.nil <| WT.block <| WT.loop <| WT.mono (l' := [(0, pv0), (3, .int .i64 0)]) (S' := St w0 Φ [] []) ⟨rfl, rfl, trivial⟩ (fun w1 hw => (hw.sel (js := []) rfl).selO (js := []) rfl) ?_
 refine loop_ind (σ := Int) (fun s => [(0, pv0), (3, .int .i64 s)]) (fun s => St w0 Φ [] []) (fun m s => m_s_l8Args_l1 N p0 m s = some r) (fun s hm => none_ne (show (none : Option (Bool)) = some r from hm)) (fun n1 ih1 s hm => ?_) N (0) h
 revert hm; revert s; intro s1 hm
 have h : m_s_l8Args_l1 N p0 (n1 + 1) s1 = some r := hm
 show WT _ _ [(0, pv0), (3, .int .i64 s1)] (St w0 Φ [] [])
 unfold m_s_l8Args_l1 at h
 refine WT.seq <| sr <| lq (q_move rfl) rfl <| lq (q_move rfl) rfl <| lq (q_lenR Sl_133 rfl rfl ph0) rfl <| lq (q_lss rfl rfl) rfl <| WL.nil ?_
 refine WT.cond rfl (fun c1 => ?_) (fun c1 => ?_)
 ·replace h := ite_t h c1
  refine WT.skip <| WT.seq <| WT.block <| sr <| lq (q_move rfl) rfl <| lq (q_move rfl) rfl ?_
  obtain ⟨x1, hx1, h⟩ := bind_some h
  obtain ⟨cs1, F1, -, g1, hb1, hs1, r1⟩ := ph0.el (idx_some hx1).2.2
  obtain ⟨rfl, -⟩ := r1
  refine lq (q_indexAddr Sl_133 rfl rfl ph0 hx1) rfl <| lq (q_loadN Tn_175 rfl (fun w1 hw => (g1.of_eq 0 11 rfl rfl : rg _ _ _ [.string x1.Op, .int .i64 x1.L.K, .string x1.L.S, .int .i64 x1.L.V.K, .int .i64 x1.L.V.N, .string x1.L.V.S, .int .i64 x1.R.K, .string x1.R.S, .int .i64 x1.R.V.K, .int .i64 x1.R.V.N, .string x1.R.V.S]).rangeAt hw.fro) rfl) rfl ?_
  obtain ⟨x2, hx2, h⟩ := bind_some h
  refine lp (p_call Fun_242 rfl (fun w1 hw => m_s_ExprOk_ok hw.fro N x1 hx2)) rfl <| lq (q_not rfl) rfl <| WL.nil ?_
  refine WT.cond rfl (fun c2 => ?_) (fun c2 => ?_)
  ·replace h := ite_t h c2
   refine sr <| lq (q_assign rfl) rfl <| WL.nil ?_
   refine WT.ret Tryz.func222 (resOk.one rfl) (fun w1 hw => ?_)
   subst hb0
   cases h
   exact post_of_St hw
  replace h := ite_f h c2
  refine WT.skip <| WT.inBlock <| WT.region <| lq (q_move rfl) rfl <| lq (q_add rfl rfl) rfl <| lq (q_assign rfl) rfl <| WL.nil ?_
  refine WT.inLoop (WT.mono (l' := [(0, pv0), (3, .int .i64 (IntKind.i64.wrap (s1 + 1)))]) (S' := St w0 Φ [] []) ⟨rfl, rfl, trivial⟩ (fun w1 hw => (hw.sel (js := []) rfl).selO (js := []) rfl) ?_)
  exact ih1 (IntKind.i64.wrap (s1 + 1)) h
 replace h := ite_f h c1
 refine WT.exit rfl <| sr <| lq (q_move rfl) rfl <| lq (q_lenR Sl_133 rfl rfl ph0) rfl <| lq (q_leq rfl rfl) rfl <| lq (q_assign rfl) rfl <| WL.nil ?_
 refine WT.ret Tryz.func222 (resOk.one rfl) (fun w1 hw => ?_)
 subst hb0
 cases h
 exact post_of_St hw
theorem m_s_ActOk_ok {Φ : Hp} {w : World} (hΦ : In Φ w) (N : Nat) (p0 : TAct) {pv0_0 : Value} {pG0_0 : List Nat} (ph0_0 : RSl RTExpr 11 Φ pG0_0 pv0_0 p0.Args) {r : Bool} (h : m_s_ActOk N p0 = some r) :
  Calls Tryz.prog 193 [.agg [.int .i64 p0.Kind, .string p0.Name, pv0_0, .int .i64 p0.N, .string p0.Undo].toArray].toArray w (Post (.bool r) w) := by
 refine enter Tryz.func193 rfl Tryz.ntmps193 rfl (St.start0 hΦ) ?_
 generalize hb0 : (⟨w, [], Φ⟩ : Base) = w0
 unfold m_s_ActOk at h
 refine WT.seq <| WT.region ?_
 refine ln (n_box (C := #[.int .i64 p0.Kind, .string p0.Name, pv0_0, .int .i64 p0.N, .string p0.Undo]) rfl rfl) rfl (fun b_1 => ?_)
 refine lq (q_assign rfl) rfl <| WL.nil <| sr <| lq (q_fieldAddr Fld_135_1 rfl) rfl <| lq (q_load1 T1_9 rfl (fun w1 hw => hw.rgO (i := 0) rfl 1 1 [.string p0.Name] rfl)) rfl <| lq (q_seq rfl rfl) rfl <| lq (q_move rfl) rfl ?_
 obtain ⟨b1, hb_1, h⟩ := bind_some h
 refine WL.cutN 5 [(12, .bool b1), (1, .pointer (some ⟨b_1, 0, none⟩))] ?_ (fun K => ?_)
 rotate_left
 ·refine WL.split (d := 7) rfl (fun c1 => ?_) (fun c1 => ?_)
  ·replace hb_1 := ite_t hb_1 c1
   refine WL.yes rfl rfl <| lq (q_fieldAddr Fld_135_2 rfl) rfl <| WL.yes rfl rfl <| lq (q_load1 T1_133 rfl (fun w1 hw => hw.rgO (i := 0) rfl 2 1 [pv0_0] rfl)) rfl <| WL.yes rfl rfl <| lq (q_lenR Sl_133 rfl rfl ph0_0) rfl <| WL.yes rfl rfl <| lq (q_eql rfl rfl) rfl <| WL.q (q_pick1 rfl rfl) rfl rfl rfl ?_
   cases hb_1
   exact WL.keep (by exact ⟨rfl, rfl, trivial⟩) K
  ·replace hb_1 := ite_f hb_1 c1
   refine WL.no rfl rfl rfl rfl <| WL.no rfl rfl rfl rfl <| WL.no rfl rfl rfl rfl <| WL.no rfl rfl rfl rfl <| WL.q (q_pick0 rfl rfl) rfl rfl rfl ?_
   cases hb_1
   exact WL.keep (by exact ⟨rfl, rfl, trivial⟩) K
 refine lq (q_move rfl) rfl ?_
 obtain ⟨b2, hb_2, h⟩ := bind_some h
 refine WL.cutN 4 [(17, .bool b2), (1, .pointer (some ⟨b_1, 0, none⟩))] ?_ (fun K => ?_)
 rotate_left
 ·refine WL.split (d := 13) rfl (fun c2 => ?_) (fun c2 => ?_)
  ·replace hb_2 := ite_t hb_2 c2
   refine WL.yes rfl rfl <| lq (q_fieldAddr Fld_135_4 rfl) rfl <| WL.yes rfl rfl <| lq (q_load1 T1_9 rfl (fun w1 hw => hw.rgO (i := 0) rfl 4 1 [.string p0.Undo] rfl)) rfl <| WL.yes rfl rfl <| lq (q_seq rfl rfl) rfl <| WL.q (q_pick1 rfl rfl) rfl rfl rfl ?_
   cases hb_2
   exact WL.keep (by exact ⟨rfl, rfl, trivial⟩) K
  ·replace hb_2 := ite_f hb_2 c2
   refine WL.no rfl rfl rfl rfl <| WL.no rfl rfl rfl rfl <| WL.no rfl rfl rfl rfl <| WL.q (q_pick0 rfl rfl) rfl rfl rfl ?_
   cases hb_2
   exact WL.keep (by exact ⟨rfl, rfl, trivial⟩) K
 refine lq (q_assign rfl) rfl <| WL.nil <| WT.seq <| sr <| lq (q_fieldAddr Fld_135_0 rfl) rfl <| lq (q_load1 T1_3 rfl (fun w1 hw => hw.rgO (i := 0) rfl 0 1 [.int .i64 p0.Kind] rfl)) rfl <| WL.nil <| WT.block <| sr <| lq (q_eql rfl rfl) rfl <| lq (q_assign rfl) rfl <| WL.nil ?_
 refine WT.cond rfl (fun c3 => ?_) (fun c3 => ?_)
 ·replace h := ite_t h c3
  refine sr <| lq (q_fieldAddr Fld_135_1 rfl) rfl <| lq (q_load1 T1_9 rfl (fun w1 hw => hw.rgO (i := 0) rfl 1 1 [.string p0.Name] rfl)) rfl ?_
  obtain ⟨x1, hx1, h⟩ := bind_some h
  refine lp (p_call Fun_84 rfl (fun w1 hw => m_s_NameOk_ok hw.fro N p0.Name hx1)) rfl <| lq (q_move rfl) rfl ?_
  obtain ⟨b3, hb_3, h⟩ := bind_some h
  refine WL.cutN 4 [(29, .bool b3), (1, .pointer (some ⟨b_1, 0, none⟩))] ?_ (fun K => ?_)
  rotate_left
  ·refine WL.split (d := 25) rfl (fun c4 => ?_) (fun c4 => ?_)
   ·replace hb_3 := ite_t hb_3 c4
    refine WL.yes rfl rfl <| lq (q_fieldAddr Fld_135_2 rfl) rfl <| WL.yes rfl rfl <| lq (q_load1 T1_133 rfl (fun w1 hw => hw.rgO (i := 0) rfl 2 1 [pv0_0] rfl)) rfl <| WL.yes rfl rfl ?_
    obtain ⟨x2, hx2, hb_3⟩ := bind_some hb_3
    refine lp (p_call Fun_222 rfl (fun w1 hw => m_s_l8Args_ok hw.fro N p0.Args ph0_0 hx2)) rfl <| WL.q (q_pick1 rfl rfl) rfl rfl rfl ?_
    cases hb_3
    exact WL.keep (by exact ⟨rfl, rfl, trivial⟩) K
   ·replace hb_3 := ite_f hb_3 c4
    refine WL.no rfl rfl rfl rfl <| WL.no rfl rfl rfl rfl <| WL.no rfl rfl rfl rfl <| WL.q (q_pick0 rfl rfl) rfl rfl rfl ?_
    cases hb_3
    exact WL.keep (by exact ⟨rfl, rfl, trivial⟩) K
  refine lq (q_move rfl) rfl ?_
  obtain ⟨b4, hb_4, h⟩ := bind_some h
  refine WL.cutN 4 [(34, .bool b4), (1, .pointer (some ⟨b_1, 0, none⟩))] ?_ (fun K => ?_)
  rotate_left
  ·refine WL.split (d := 30) rfl (fun c5 => ?_) (fun c5 => ?_)
   ·replace hb_4 := ite_t hb_4 c5
    refine WL.yes rfl rfl <| lq (q_fieldAddr Fld_135_3 rfl) rfl <| WL.yes rfl rfl <| lq (q_load1 T1_3 rfl (fun w1 hw => hw.rgO (i := 0) rfl 3 1 [.int .i64 p0.N] rfl)) rfl <| WL.yes rfl rfl <| lq (q_eql rfl rfl) rfl <| WL.q (q_pick1 rfl rfl) rfl rfl rfl ?_
    cases hb_4
    exact WL.keep (by exact ⟨rfl, rfl, trivial⟩) K
   ·replace hb_4 := ite_f hb_4 c5
    refine WL.no rfl rfl rfl rfl <| WL.no rfl rfl rfl rfl <| WL.no rfl rfl rfl rfl <| WL.q (q_pick0 rfl rfl) rfl rfl rfl ?_
    cases hb_4
    exact WL.keep (by exact ⟨rfl, rfl, trivial⟩) K
  refine lq (q_move rfl) rfl ?_
  obtain ⟨b5, hb_5, h⟩ := bind_some h
  refine WL.cutN 4 [(39, .bool b5)] ?_ (fun K => ?_)
  rotate_left
  ·refine WL.split (d := 35) rfl (fun c6 => ?_) (fun c6 => ?_)
   ·replace hb_5 := ite_t hb_5 c6
    refine WL.yes rfl rfl <| lq (q_fieldAddr Fld_135_4 rfl) rfl <| WL.yes rfl rfl <| lq (q_load1 T1_9 rfl (fun w1 hw => hw.rgO (i := 0) rfl 4 1 [.string p0.Undo] rfl)) rfl <| WL.yes rfl rfl <| lq (q_seq rfl rfl) rfl <| WL.q (q_pick1 rfl rfl) rfl rfl rfl ?_
    cases hb_5
    exact WL.keep (by exact ⟨rfl, trivial⟩) K
   ·replace hb_5 := ite_f hb_5 c6
    refine WL.no rfl rfl rfl rfl <| WL.no rfl rfl rfl rfl <| WL.no rfl rfl rfl rfl <| WL.q (q_pick0 rfl rfl) rfl rfl rfl ?_
    cases hb_5
    exact WL.keep (by exact ⟨rfl, trivial⟩) K
  refine lq (q_assign rfl) rfl <| WL.nil ?_
  refine WT.ret Tryz.func193 (resOk.one rfl) (fun w1 hw => ?_)
  subst hb0
  cases h
  exact post_of_St hw
 replace h := ite_f h c3
 refine sr <| lq (q_eql rfl rfl) rfl <| lq (q_assign rfl) rfl <| WL.nil ?_
 refine WT.cond rfl (fun c7 => ?_) (fun c7 => ?_)
 ·replace h := ite_t h c7
  refine sr <| lq (q_fieldAddr Fld_135_1 rfl) rfl <| lq (q_load1 T1_9 rfl (fun w1 hw => hw.rgO (i := 0) rfl 1 1 [.string p0.Name] rfl)) rfl ?_
  obtain ⟨x3, hx3, h⟩ := bind_some h
  refine lp (p_call Fun_84 rfl (fun w1 hw => m_s_NameOk_ok hw.fro N p0.Name hx3)) rfl <| lq (q_move rfl) rfl ?_
  obtain ⟨b6, hb_6, h⟩ := bind_some h
  refine WL.cutN 4 [(49, .bool b6), (1, .pointer (some ⟨b_1, 0, none⟩))] ?_ (fun K => ?_)
  rotate_left
  ·refine WL.split (d := 45) rfl (fun c8 => ?_) (fun c8 => ?_)
   ·replace hb_6 := ite_t hb_6 c8
    refine WL.yes rfl rfl <| lq (q_fieldAddr Fld_135_2 rfl) rfl <| WL.yes rfl rfl <| lq (q_load1 T1_133 rfl (fun w1 hw => hw.rgO (i := 0) rfl 2 1 [pv0_0] rfl)) rfl <| WL.yes rfl rfl ?_
    obtain ⟨x4, hx4, hb_6⟩ := bind_some hb_6
    refine lp (p_call Fun_222 rfl (fun w1 hw => m_s_l8Args_ok hw.fro N p0.Args ph0_0 hx4)) rfl <| WL.q (q_pick1 rfl rfl) rfl rfl rfl ?_
    cases hb_6
    exact WL.keep (by exact ⟨rfl, rfl, trivial⟩) K
   ·replace hb_6 := ite_f hb_6 c8
    refine WL.no rfl rfl rfl rfl <| WL.no rfl rfl rfl rfl <| WL.no rfl rfl rfl rfl <| WL.q (q_pick0 rfl rfl) rfl rfl rfl ?_
    cases hb_6
    exact WL.keep (by exact ⟨rfl, rfl, trivial⟩) K
  refine lq (q_move rfl) rfl ?_
  obtain ⟨b7, hb_7, h⟩ := bind_some h
  refine WL.cutN 4 [(54, .bool b7), (1, .pointer (some ⟨b_1, 0, none⟩))] ?_ (fun K => ?_)
  rotate_left
  ·refine WL.split (d := 50) rfl (fun c9 => ?_) (fun c9 => ?_)
   ·replace hb_7 := ite_t hb_7 c9
    refine WL.yes rfl rfl <| lq (q_fieldAddr Fld_135_3 rfl) rfl <| WL.yes rfl rfl <| lq (q_load1 T1_3 rfl (fun w1 hw => hw.rgO (i := 0) rfl 3 1 [.int .i64 p0.N] rfl)) rfl <| WL.yes rfl rfl <| lq (q_eql rfl rfl) rfl <| WL.q (q_pick1 rfl rfl) rfl rfl rfl ?_
    cases hb_7
    exact WL.keep (by exact ⟨rfl, rfl, trivial⟩) K
   ·replace hb_7 := ite_f hb_7 c9
    refine WL.no rfl rfl rfl rfl <| WL.no rfl rfl rfl rfl <| WL.no rfl rfl rfl rfl <| WL.q (q_pick0 rfl rfl) rfl rfl rfl ?_
    cases hb_7
    exact WL.keep (by exact ⟨rfl, rfl, trivial⟩) K
  refine lq (q_move rfl) rfl ?_
  obtain ⟨b8, hb_8, h⟩ := bind_some h
  refine WL.cutN 9 [(64, .bool b8)] ?_ (fun K => ?_)
  rotate_left
  ·refine WL.split (d := 55) rfl (fun c10 => ?_) (fun c10 => ?_)
   ·replace hb_8 := ite_t hb_8 c10
    refine WL.yes rfl rfl <| lq (q_fieldAddr Fld_135_4 rfl) rfl <| WL.yes rfl rfl <| lq (q_load1 T1_9 rfl (fun w1 hw => hw.rgO (i := 0) rfl 4 1 [.string p0.Undo] rfl)) rfl <| WL.yes rfl rfl <| lq (q_seq rfl rfl) rfl <| WL.yes rfl rfl <| lq (q_move rfl) rfl ?_
    obtain ⟨b9, hb_9, hb_8⟩ := bind_some hb_8
    refine WL.cutN 4 [(63, .bool b9), (55, .bool true)] ?_ (fun K => ?_)
    rotate_left
    ·refine WL.split (d := 59) rfl (fun c11 => ?_) (fun c11 => ?_)
     ·replace hb_9 := ite_t hb_9 c11
      refine WL.no rfl rfl rfl rfl <| WL.no rfl rfl rfl rfl <| WL.no rfl rfl rfl rfl <| WL.yes rfl rfl <| WL.q (q_pick1 rfl rfl) rfl rfl rfl ?_
      cases hb_9
      exact WL.keep (by exact ⟨rfl, rfl, trivial⟩) K
     ·replace hb_9 := ite_f hb_9 c11
      refine WL.yes rfl rfl <| lq (q_fieldAddr Fld_135_4 rfl) rfl <| WL.yes rfl rfl <| lq (q_load1 T1_9 rfl (fun w1 hw => hw.rgO (i := 0) rfl 4 1 [.string p0.Undo] rfl)) rfl <| WL.yes rfl rfl ?_
      obtain ⟨x5, hx5, hb_9⟩ := bind_some hb_9
      refine lp (p_call Fun_84 rfl (fun w1 hw => m_s_NameOk_ok hw.fro N p0.Undo hx5)) rfl <| WL.yes rfl rfl <| WL.q (q_pick0 rfl rfl) rfl rfl rfl ?_
      cases hb_9
      exact WL.keep (by exact ⟨rfl, rfl, trivial⟩) K
    refine WL.q (q_pick1 rfl rfl) rfl rfl rfl ?_
    cases hb_8
    exact WL.keep (by exact ⟨rfl, trivial⟩) K
   ·replace hb_8 := ite_f hb_8 c10
    refine WL.no rfl rfl rfl rfl <| WL.no rfl rfl rfl rfl <| WL.no rfl rfl rfl rfl <| WL.no rfl rfl rfl rfl <| WL.nox rfl rfl rfl rfl <| WL.nox rfl rfl rfl rfl <| WL.nox rfl rfl rfl rfl <| WL.no rfl rfl rfl rfl <| WL.q (q_pick0 rfl rfl) rfl rfl rfl ?_
    cases hb_8
    exact WL.keep (by exact ⟨rfl, trivial⟩) K
  refine lq (q_assign rfl) rfl <| WL.nil ?_
  refine WT.ret Tryz.func193 (resOk.one rfl) (fun w1 hw => ?_)
  subst hb0
  cases h
  exact post_of_St hw
 replace h := ite_f h c7
 refine sr <| lq (q_eql rfl rfl) rfl <| lq (q_assign rfl) rfl <| WL.nil ?_
 refine WT.cond rfl (fun c12 => ?_) (fun c12 => ?_)
 ·replace h := ite_t h c12
  refine sr <| lq (q_fieldAddr Fld_135_1 rfl) rfl <| lq (q_load1 T1_9 rfl (fun w1 hw => hw.rgO (i := 0) rfl 1 1 [.string p0.Name] rfl)) rfl ?_
  obtain ⟨x6, hx6, h⟩ := bind_some h
  refine lp (p_call Fun_84 rfl (fun w1 hw => m_s_NameOk_ok hw.fro N p0.Name hx6)) rfl <| lq (q_move rfl) rfl ?_
  obtain ⟨b10, hb_10, h⟩ := bind_some h
  refine WL.cutN 4 [(74, .bool b10), (1, .pointer (some ⟨b_1, 0, none⟩))] ?_ (fun K => ?_)
  rotate_left
  ·refine WL.split (d := 70) rfl (fun c13 => ?_) (fun c13 => ?_)
   ·replace hb_10 := ite_t hb_10 c13
    refine WL.yes rfl rfl <| lq (q_fieldAddr Fld_135_2 rfl) rfl <| WL.yes rfl rfl <| lq (q_load1 T1_133 rfl (fun w1 hw => hw.rgO (i := 0) rfl 2 1 [pv0_0] rfl)) rfl <| WL.yes rfl rfl ?_
    obtain ⟨x7, hx7, hb_10⟩ := bind_some hb_10
    refine lp (p_call Fun_222 rfl (fun w1 hw => m_s_l8Args_ok hw.fro N p0.Args ph0_0 hx7)) rfl <| WL.q (q_pick1 rfl rfl) rfl rfl rfl ?_
    cases hb_10
    exact WL.keep (by exact ⟨rfl, rfl, trivial⟩) K
   ·replace hb_10 := ite_f hb_10 c13
    refine WL.no rfl rfl rfl rfl <| WL.no rfl rfl rfl rfl <| WL.no rfl rfl rfl rfl <| WL.q (q_pick0 rfl rfl) rfl rfl rfl ?_
    cases hb_10
    exact WL.keep (by exact ⟨rfl, rfl, trivial⟩) K
  refine lq (q_move rfl) rfl ?_
  obtain ⟨b11, hb_11, h⟩ := bind_some h
  refine WL.cutN 4 [(79, .bool b11), (1, .pointer (some ⟨b_1, 0, none⟩))] ?_ (fun K => ?_)
  rotate_left
  ·refine WL.split (d := 75) rfl (fun c14 => ?_) (fun c14 => ?_)
   ·replace hb_11 := ite_t hb_11 c14
    refine WL.yes rfl rfl <| lq (q_fieldAddr Fld_135_3 rfl) rfl <| WL.yes rfl rfl <| lq (q_load1 T1_3 rfl (fun w1 hw => hw.rgO (i := 0) rfl 3 1 [.int .i64 p0.N] rfl)) rfl <| WL.yes rfl rfl ?_
    obtain ⟨x8, hx8, hb_11⟩ := bind_some hb_11
    refine lp (p_call Fun_85 rfl (fun w1 hw => m_s_l1In_ok hw.fro N p0.N 0 100000 hx8)) rfl <| WL.q (q_pick1 rfl rfl) rfl rfl rfl ?_
    cases hb_11
    exact WL.keep (by exact ⟨rfl, rfl, trivial⟩) K
   ·replace hb_11 := ite_f hb_11 c14
    refine WL.no rfl rfl rfl rfl <| WL.no rfl rfl rfl rfl <| WL.no rfl rfl rfl rfl <| WL.q (q_pick0 rfl rfl) rfl rfl rfl ?_
    cases hb_11
    exact WL.keep (by exact ⟨rfl, rfl, trivial⟩) K
  refine lq (q_move rfl) rfl ?_
  obtain ⟨b12, hb_12, h⟩ := bind_some h
  refine WL.cutN 4 [(84, .bool b12)] ?_ (fun K => ?_)
  rotate_left
  ·refine WL.split (d := 80) rfl (fun c15 => ?_) (fun c15 => ?_)
   ·replace hb_12 := ite_t hb_12 c15
    refine WL.yes rfl rfl <| lq (q_fieldAddr Fld_135_4 rfl) rfl <| WL.yes rfl rfl <| lq (q_load1 T1_9 rfl (fun w1 hw => hw.rgO (i := 0) rfl 4 1 [.string p0.Undo] rfl)) rfl <| WL.yes rfl rfl <| lq (q_seq rfl rfl) rfl <| WL.q (q_pick1 rfl rfl) rfl rfl rfl ?_
    cases hb_12
    exact WL.keep (by exact ⟨rfl, trivial⟩) K
   ·replace hb_12 := ite_f hb_12 c15
    refine WL.no rfl rfl rfl rfl <| WL.no rfl rfl rfl rfl <| WL.no rfl rfl rfl rfl <| WL.q (q_pick0 rfl rfl) rfl rfl rfl ?_
    cases hb_12
    exact WL.keep (by exact ⟨rfl, trivial⟩) K
  refine lq (q_assign rfl) rfl <| WL.nil ?_
  refine WT.ret Tryz.func193 (resOk.one rfl) (fun w1 hw => ?_)
  subst hb0
  cases h
  exact post_of_St hw
 replace h := ite_f h c12
 refine sr <| lq (q_eql rfl rfl) rfl <| lq (q_assign rfl) rfl <| WL.nil ?_
 refine WT.cond rfl (fun c16 => ?_) (fun c16 => ?_)
 ·replace h := ite_t h c16
  refine sr <| lq (q_move rfl) rfl <| lq (q_move rfl) rfl ?_
  obtain ⟨b13, hb_13, h⟩ := bind_some h
  refine WL.cutN 4 [(92, .bool b13)] ?_ (fun K => ?_)
  rotate_left
  ·refine WL.split (d := 88) rfl (fun c17 => ?_) (fun c17 => ?_)
   ·replace hb_13 := ite_t hb_13 c17
    refine WL.yes rfl rfl <| lq (q_fieldAddr Fld_135_3 rfl) rfl <| WL.yes rfl rfl <| lq (q_load1 T1_3 rfl (fun w1 hw => hw.rgO (i := 0) rfl 3 1 [.int .i64 p0.N] rfl)) rfl <| WL.yes rfl rfl ?_
    obtain ⟨x9, hx9, hb_13⟩ := bind_some hb_13
    refine lp (p_call Fun_85 rfl (fun w1 hw => m_s_l1In_ok hw.fro N p0.N 0 7 hx9)) rfl <| WL.q (q_pick1 rfl rfl) rfl rfl rfl ?_
    cases hb_13
    exact WL.keep (by exact ⟨rfl, trivial⟩) K
   ·replace hb_13 := ite_f hb_13 c17
    refine WL.no rfl rfl rfl rfl <| WL.no rfl rfl rfl rfl <| WL.no rfl rfl rfl rfl <| WL.q (q_pick0 rfl rfl) rfl rfl rfl ?_
    cases hb_13
    exact WL.keep (by exact ⟨rfl, trivial⟩) K
  refine lq (q_assign rfl) rfl <| WL.nil ?_
  refine WT.ret Tryz.func193 (resOk.one rfl) (fun w1 hw => ?_)
  subst hb0
  cases h
  exact post_of_St hw
 replace h := ite_f h c16
 refine WT.seq <| sr <| lq (q_eql rfl rfl) rfl <| lq (q_assign rfl) rfl <| WL.nil ?_
 refine cut (σ := Bool) (fun s => [(1, .pointer (some ⟨b_1, 0, none⟩)), (3, .bool b2), (93, .bool s)]) (fun s => St w0 Φ [(b_1, .cells #[.int .i64 p0.Kind, .string p0.Name, pv0_0, .int .i64 p0.N, .string p0.Undo] 135 (0, 0))] []) (fun s => m_s_ActOk_j1 N p0 b2 s = some r) (fun s hm => ?_) (fun K => ?_)
 ·clear h
  revert hm; revert s; intro s1 hm
  have h : m_s_ActOk_j1 N p0 b2 s1 = some r := hm
  show WT _ _ [(1, .pointer (some ⟨b_1, 0, none⟩)), (3, .bool b2), (93, .bool s1)] (St w0 Φ [(b_1, .cells #[.int .i64 p0.Kind, .string p0.Name, pv0_0, .int .i64 p0.N, .string p0.Undo] 135 (0, 0))] [])
  unfold m_s_ActOk_j1 at h
  refine WT.cond rfl (fun c18 => ?_) (fun c18 => ?_)
  ·replace h := ite_t h c18
   refine sr <| lq (q_move rfl) rfl <| lq (q_move rfl) rfl ?_
   obtain ⟨b14, hb_14, h⟩ := bind_some h
   refine WL.cutN 4 [(101, .bool b14)] ?_ (fun K => ?_)
   rotate_left
   ·refine WL.split (d := 97) rfl (fun c19 => ?_) (fun c19 => ?_)
    ·replace hb_14 := ite_t hb_14 c19
     refine WL.yes rfl rfl <| lq (q_fieldAddr Fld_135_3 rfl) rfl <| WL.yes rfl rfl <| lq (q_load1 T1_3 rfl (fun w1 hw => hw.rgO (i := 0) rfl 3 1 [.int .i64 p0.N] rfl)) rfl <| WL.yes rfl rfl <| lq (q_eql rfl rfl) rfl <| WL.q (q_pick1 rfl rfl) rfl rfl rfl ?_
     cases hb_14
     exact WL.keep (by exact ⟨rfl, trivial⟩) K
    ·replace hb_14 := ite_f hb_14 c19
     refine WL.no rfl rfl rfl rfl <| WL.no rfl rfl rfl rfl <| WL.no rfl rfl rfl rfl <| WL.q (q_pick0 rfl rfl) rfl rfl rfl ?_
     cases hb_14
     exact WL.keep (by exact ⟨rfl, trivial⟩) K
   refine lq (q_assign rfl) rfl <| WL.nil ?_
   refine WT.ret Tryz.func193 (resOk.one rfl) (fun w1 hw => ?_)
   subst hb0
   cases h
   exact post_of_St hw
  replace h := ite_f h c18
  refine WT.skip <| WT.inBlock <| sr <| lq (q_assign rfl) rfl <| WL.nil ?_
  refine WT.ret Tryz.func193 (resOk.one rfl) (fun w1 hw => ?_)
  subst hb0
  cases h
  exact post_of_St hw
 refine WT.cond rfl (fun c20 => ?_) (fun c20 => ?_)
 ·replace h := ite_t h c20
  refine WT.skip <| WT.mono (l' := [(1, .pointer (some ⟨b_1, 0, none⟩)), (3, .bool b2), (93, .bool (decide (p0.Kind = 5)))]) (S' := St w0 Φ [(b_1, .cells #[.int .i64 p0.Kind, .string p0.Name, pv0_0, .int .i64 p0.N, .string p0.Undo] 135 (0, 0))] []) ⟨rfl, rfl, rfl, trivial⟩ (fun w1 hw => (hw.sel (js := []) rfl).selO (js := [0]) rfl) ?_
  exact K (decide (p0.Kind = 5)) h
 replace h := ite_f h c20
 refine WT.region <| lq (q_eql rfl rfl) rfl <| lq (q_assign rfl) rfl <| WL.nil <| WT.mono (l' := [(1, .pointer (some ⟨b_1, 0, none⟩)), (3, .bool b2), (93, .bool (decide (p0.Kind = 6)))]) (S' := St w0 Φ [(b_1, .cells #[.int .i64 p0.Kind, .string p0.Name, pv0_0, .int .i64 p0.N, .string p0.Undo] 135 (0, 0))] []) ⟨rfl, rfl, rfl, trivial⟩ (fun w1 hw => (hw.sel (js := []) rfl).selO (js := [0]) rfl) ?_
 exact K (decide (p0.Kind = 6)) h
theorem m_s_l9Acts_ok {Φ : Hp} {w : World} (hΦ : In Φ w) (N : Nat) (p0 : (List TAct)) (p1 : (List ByteArray)) (p2 : Int) {pv0 : Value} {pG0 : List Nat} {pv1 : Value} {pG1 : List Nat} (ph0 : RSl RTAct 5 Φ pG0 pv0 p0) (ph1 : RSl RS 1 Φ pG1 pv1 p1) {r : Bool} (h : m_s_l9Acts N p0 p1 p2 = some r) :
  Calls Tryz.prog 135 [pv0, pv1, .int .i64 p2].toArray w (Post (.bool r) w) := by
 refine enter Tryz.func135 rfl Tryz.ntmps135 rfl (St.start0 hΦ) ?_
 generalize hb0 : (⟨w, [], Φ⟩ : Base) = w0
 unfold m_s_l9Acts at h
 refine sr <| lq (q_assign rfl) rfl <| WL.nil <| WT.seq <| sr <| lq (q_assign rfl) rfl <| WL.nil <| WT.block <| WT.loop <| WT.mono (l' := [(0, pv0), (1, pv1), (2, .int .i64 p2), (7, .int .i64 0)]) (S' := St w0 Φ [] []) ⟨rfl, rfl, rfl, rfl, trivial⟩ (fun w1 hw => (hw.sel (js := []) rfl).selO (js := []) rfl) ?_
 refine loop_ind (σ := Int) (fun s => [(0, pv0), (1, pv1), (2, .int .i64 p2), (7, .int .i64 s)]) (fun s => St w0 Φ [] []) (fun m s => m_s_l9Acts_l1 N p0 p1 p2 m s = some r) (fun s hm => none_ne (show (none : Option (Bool)) = some r from hm)) (fun n1 ih1 s hm => ?_) N (0) h
 revert hm; revert s; intro s1 hm
 have h : m_s_l9Acts_l1 N p0 p1 p2 (n1 + 1) s1 = some r := hm
 show WT _ _ [(0, pv0), (1, pv1), (2, .int .i64 p2), (7, .int .i64 s1)] (St w0 Φ [] [])
 unfold m_s_l9Acts_l1 at h
 refine WT.seq <| sr <| lq (q_move rfl) rfl <| lq (q_move rfl) rfl <| lq (q_lenR Sl_47 rfl rfl ph0) rfl <| lq (q_lss rfl rfl) rfl <| WL.nil ?_
 refine WT.cond rfl (fun c1 => ?_) (fun c1 => ?_)
 ·replace h := ite_t h c1
  refine WT.skip <| WT.seq <| WT.block <| WT.seq <| sr <| lq (q_move rfl) rfl <| lq (q_move rfl) rfl ?_
  obtain ⟨x1, hx1, h⟩ := bind_some h
  obtain ⟨cs1, F1, -, g1, hb1, hs1, r1⟩ := ph0.el (idx_some hx1).2.2
  obtain ⟨v1, G1, rfl, hq1, h1⟩ := r1
  obtain rfl := hq1.symm
  refine lq (q_indexAddr Sl_47 rfl rfl ph0 hx1) rfl <| lq (q_loadN Tn_135 rfl (fun w1 hw => (g1.of_eq 0 5 rfl rfl : rg _ _ _ [.int .i64 x1.Kind, .string x1.Name, v1, .int .i64 x1.N, .string x1.Undo]).rangeAt hw.fro) rfl) rfl ?_
  obtain ⟨x2, hx2, h⟩ := bind_some h
  refine lp (p_call Fun_193 rfl (fun w1 hw => m_s_ActOk_ok hw.fro N x1 h1 hx2)) rfl <| lq (q_not rfl) rfl <| lq (q_move rfl) rfl ?_
  obtain ⟨b1, hb_1, h⟩ := bind_some h
  refine WL.cutN 16 [(37, .bool b1), (0, pv0), (1, pv1), (2, .int .i64 p2), (7, .int .i64 s1)] ?_ (fun K => ?_)
  rotate_left
  ·refine WL.split (d := 21) rfl (fun c2 => ?_) (fun c2 => ?_)
   ·replace hb_1 := ite_t hb_1 c2
    refine WL.no rfl rfl rfl rfl <| WL.no rfl rfl rfl rfl <| WL.no rfl rfl rfl rfl <| WL.no rfl rfl rfl rfl <| WL.no rfl rfl rfl rfl <| WL.no rfl rfl rfl rfl <| WL.no rfl rfl rfl rfl <| WL.nox rfl rfl rfl rfl <| WL.nox rfl rfl rfl rfl <| WL.nox rfl rfl rfl rfl <| WL.nox rfl rfl rfl rfl <| WL.nox rfl rfl rfl rfl <| WL.nox rfl rfl rfl rfl <| WL.nox rfl rfl rfl rfl <| WL.no rfl rfl rfl rfl <| WL.q (q_pick1 rfl rfl) rfl rfl rfl ?_
    cases hb_1
    exact WL.keep (by exact ⟨rfl, rfl, rfl, rfl, rfl, trivial⟩) K
   ·replace hb_1 := ite_f hb_1 c2
    refine WL.yes rfl rfl <| lq (q_move rfl) rfl <| WL.yes rfl rfl <| lq (q_move rfl) rfl <| WL.yes rfl rfl ?_
    obtain ⟨x3, hx3, hb_1⟩ := bind_some hb_1
    obtain ⟨cs2, F2, -, g2, hb2, hs2, r2⟩ := ph0.el (idx_some hx3).2.2
    obtain ⟨v2, G2, rfl, hq2, h2⟩ := r2
    obtain rfl := hq2.symm
    refine lq (q_indexAddr Sl_47 rfl rfl ph0 hx3) rfl <| WL.yes rfl rfl <| lq (q_fieldAddr Fld_135_0 rfl) rfl <| WL.yes rfl rfl <| lq (q_load1 T1_3 rfl (fun w1 hw => (g2.of_eq 0 1 rfl rfl : rg _ _ _ [.int .i64 x3.Kind]).rangeAt hw.fro)) rfl <| WL.yes rfl rfl <| lq (q_eql rfl rfl) rfl <| WL.yes rfl rfl <| lq (q_move rfl) rfl ?_
    obtain ⟨b2, hb_2, hb_1⟩ := bind_some hb_1
    refine WL.cutN 8 [(36, .bool b2), (0, pv0), (1, pv1), (2, .int .i64 p2), (7, .int .i64 s1), (21, .bool false)] ?_ (fun K => ?_)
    rotate_left
    ·refine WL.split (d := 28) rfl (fun c3 => ?_) (fun c3 => ?_)
     ·replace hb_2 := ite_t hb_2 c3
      refine WL.yes rfl rfl <| lq (q_move rfl) rfl <| WL.yes rfl rfl <| lq (q_move rfl) rfl <| WL.yes rfl rfl ?_
      obtain ⟨x4, hx4, hb_2⟩ := bind_some hb_2
      obtain ⟨cs3, F3, -, g3, hb3, hs3, r3⟩ := ph0.el (idx_some hx4).2.2
      obtain ⟨v3, G3, rfl, hq3, h3⟩ := r3
      obtain rfl := hq3.symm
      refine lq (q_indexAddr Sl_47 rfl rfl ph0 hx4) rfl <| WL.yes rfl rfl <| lq (q_fieldAddr Fld_135_3 rfl) rfl <| WL.yes rfl rfl <| lq (q_load1 T1_3 rfl (fun w1 hw => (g3.of_eq 3 1 rfl rfl : rg _ _ _ [.int .i64 x4.N]).rangeAt hw.fro)) rfl <| WL.yes rfl rfl <| lq (q_move rfl) rfl <| WL.yes rfl rfl <| lq (q_geq rfl rfl) rfl <| WL.yes rfl rfl <| WL.q (q_pick1 rfl rfl) rfl rfl rfl ?_
      cases hb_2
      exact WL.keep (by exact ⟨rfl, rfl, rfl, rfl, rfl, rfl, trivial⟩) K
     ·replace hb_2 := ite_f hb_2 c3
      refine WL.no rfl rfl rfl rfl <| WL.no rfl rfl rfl rfl <| WL.no rfl rfl rfl rfl <| WL.no rfl rfl rfl rfl <| WL.no rfl rfl rfl rfl <| WL.no rfl rfl rfl rfl <| WL.no rfl rfl rfl rfl <| WL.yes rfl rfl <| WL.q (q_pick0 rfl rfl) rfl rfl rfl ?_
      cases hb_2
      exact WL.keep (by exact ⟨rfl, rfl, rfl, rfl, rfl, rfl, trivial⟩) K
    refine WL.q (q_pick0 rfl rfl) rfl rfl rfl ?_
    cases hb_1
    exact WL.keep (by exact ⟨rfl, rfl, rfl, rfl, rfl, trivial⟩) K
  refine WL.nil ?_
  refine WT.cond rfl (fun c4 => ?_) (fun c4 => ?_)
  ·replace h := ite_t h c4
   refine sr <| lq (q_assign rfl) rfl <| WL.nil ?_
   refine WT.ret Tryz.func135 (resOk.one rfl) (fun w1 hw => ?_)
   subst hb0
   cases h
   exact post_of_St hw
  replace h := ite_f h c4
  refine WT.skip <| sr <| lq (q_assign rfl) rfl <| WL.nil <| WT.block <| WT.loop <| WT.mono (l' := [(0, pv0), (1, pv1), (2, .int .i64 p2), (7, .int .i64 s1), (8, .int .i64 0)]) (S' := St w0 Φ [] []) ⟨rfl, rfl, rfl, rfl, rfl, trivial⟩ (fun w1 hw => (hw.sel (js := []) rfl).selO (js := []) rfl) ?_
  refine loop_ind (σ := Int) (fun s => [(0, pv0), (1, pv1), (2, .int .i64 p2), (7, .int .i64 s1), (8, .int .i64 s)]) (fun s => St w0 Φ [] []) (fun m s => m_s_l9Acts_l2 N p0 p1 s1 (m_s_l9Acts_l1 N p0 p1 p2 n1) m s = some r) (fun s hm => none_ne (show (none : Option (Bool)) = some r from hm)) (fun n2 ih2 s hm => ?_) N (0) h
  revert hm; revert s; intro s2 hm
  have h : m_s_l9Acts_l2 N p0 p1 s1 (m_s_l9Acts_l1 N p0 p1 p2 n1) (n2 + 1) s2 = some r := hm
  show WT _ _ [(0, pv0), (1, pv1), (2, .int .i64 p2), (7, .int .i64 s1), (8, .int .i64 s2)] (St w0 Φ [] [])
  unfold m_s_l9Acts_l2 at h
  refine WT.seq <| sr <| lq (q_move rfl) rfl <| lq (q_move rfl) rfl <| lq (q_move rfl) rfl ?_
  obtain ⟨x5, hx5, h⟩ := bind_some h
  obtain ⟨cs4, F4, -, g4, hb4, hs4, r4⟩ := ph0.el (idx_some hx5).2.2
  obtain ⟨v4, G4, rfl, hq4, h4⟩ := r4
  obtain rfl := hq4.symm
  refine lq (q_indexAddr Sl_47 rfl rfl ph0 hx5) rfl <| lq (q_fieldAddr Fld_135_2 rfl) rfl <| lq (q_load1 T1_133 rfl (fun w1 hw => (g4.of_eq 2 1 rfl rfl : rg _ _ _ [v4]).rangeAt hw.fro)) rfl <| lq (q_lenR Sl_133 rfl rfl h4) rfl <| lq (q_lss rfl rfl) rfl <| WL.nil ?_
  refine WT.cond rfl (fun c5 => ?_) (fun c5 => ?_)
  ·replace h := ite_t h c5
   refine WT.skip <| WT.seq <| WT.block <| sr <| lq (q_move rfl) rfl <| lq (q_move rfl) rfl ?_
   obtain ⟨x6, hx6, h⟩ := bind_some h
   obtain ⟨cs5, F5, -, g5, hb5, hs5, r5⟩ := ph0.el (idx_some hx6).2.2
   obtain ⟨v5, G5, rfl, hq5, h5⟩ := r5
   obtain rfl := hq5.symm
   refine lq (q_indexAddr Sl_47 rfl rfl ph0 hx6) rfl <| lq (q_fieldAddr Fld_135_2 rfl) rfl <| lq (q_load1 T1_133 rfl (fun w1 hw => (g5.of_eq 2 1 rfl rfl : rg _ _ _ [v5]).rangeAt hw.fro)) rfl <| lq (q_move rfl) rfl ?_
   obtain ⟨x7, hx7, h⟩ := bind_some h
   obtain ⟨cs6, F6, -, g6, hb6, hs6, r6⟩ := h5.el (idx_some hx7).2.2
   obtain ⟨rfl, -⟩ := r6
   refine lq (q_indexAddr Sl_133 rfl rfl h5 hx7) rfl <| lq (q_fieldAddr Fld_175_1 rfl) rfl <| lq (q_loadN Tn_126 rfl (fun w1 hw => (g6.of_eq 1 5 rfl rfl : rg _ _ _ [.int .i64 x7.L.K, .string x7.L.S, .int .i64 x7.L.V.K, .int .i64 x7.L.V.N, .string x7.L.V.S]).rangeAt hw.fro) rfl) rfl <| lq (q_move rfl) rfl ?_
   obtain ⟨x8, hx8, h⟩ := bind_some h
   refine lp (p_call Fun_179 rfl (fun w1 hw => m_s_l9Known_ok hw.fro N x7.L p1 ph1 hx8)) rfl <| lq (q_not rfl) rfl <| lq (q_move rfl) rfl ?_
   obtain ⟨b3, hb_3, h⟩ := bind_some h
   refine WL.cutN 13 [(73, .bool b3), (0, pv0), (1, pv1), (2, .int .i64 p2), (7, .int .i64 s1), (8, .int .i64 s2)] ?_ (fun K => ?_)
   rotate_left
   ·refine WL.split (d := 60) rfl (fun c6 => ?_) (fun c6 => ?_)
    ·replace hb_3 := ite_t hb_3 c6
     refine WL.no rfl rfl rfl rfl <| WL.no rfl rfl rfl rfl <| WL.no rfl rfl rfl rfl <| WL.no rfl rfl rfl rfl <| WL.no rfl rfl rfl rfl <| WL.no rfl rfl rfl rfl <| WL.no rfl rfl rfl rfl <| WL.no rfl rfl rfl rfl <| WL.no rfl rfl rfl rfl <| WL.no rfl rfl rfl rfl <| WL.no rfl rfl rfl rfl <| WL.no rfl rfl rfl rfl <| WL.q (q_pick1 rfl rfl) rfl rfl rfl ?_
     cases hb_3
     exact WL.keep (by exact ⟨rfl, rfl, rfl, rfl, rfl, rfl, trivial⟩) K
    ·replace hb_3 := ite_f hb_3 c6
     refine WL.yes rfl rfl <| lq (q_move rfl) rfl <| WL.yes rfl rfl <| lq (q_move rfl) rfl <| WL.yes rfl rfl ?_
     obtain ⟨x9, hx9, hb_3⟩ := bind_some hb_3
     obtain ⟨cs7, F7, -, g7, hb7, hs7, r7⟩ := ph0.el (idx_some hx9).2.2
     obtain ⟨v6, G6, rfl, hq6, h6⟩ := r7
     obtain rfl := hq6.symm
     refine lq (q_indexAddr Sl_47 rfl rfl ph0 hx9) rfl <| WL.yes rfl rfl <| lq (q_fieldAddr Fld_135_2 rfl) rfl <| WL.yes rfl rfl <| lq (q_load1 T1_133 rfl (fun w1 hw => (g7.of_eq 2 1 rfl rfl : rg _ _ _ [v6]).rangeAt hw.fro)) rfl <| WL.yes rfl rfl <| lq (q_move rfl) rfl <| WL.yes rfl rfl ?_
     obtain ⟨x10, hx10, hb_3⟩ := bind_some hb_3
     obtain ⟨cs8, F8, -, g8, hb8, hs8, r8⟩ := h6.el (idx_some hx10).2.2
     obtain ⟨rfl, -⟩ := r8
     refine lq (q_indexAddr Sl_133 rfl rfl h6 hx10) rfl <| WL.yes rfl rfl <| lq (q_fieldAddr Fld_175_2 rfl) rfl <| WL.yes rfl rfl <| lq (q_loadN Tn_126 rfl (fun w1 hw => (g8.of_eq 6 5 rfl rfl : rg _ _ _ [.int .i64 x10.R.K, .string x10.R.S, .int .i64 x10.R.V.K, .int .i64 x10.R.V.N, .string x10.R.V.S]).rangeAt hw.fro) rfl) rfl <| WL.yes rfl rfl <| lq (q_move rfl) rfl <| WL.yes rfl rfl ?_
     obtain ⟨x11, hx11, hb_3⟩ := bind_some hb_3
     refine lp (p_call Fun_179 rfl (fun w1 hw => m_s_l9Known_ok hw.fro N x10.R p1 ph1 hx11)) rfl <| WL.yes rfl rfl <| lq (q_not rfl) rfl <| WL.q (q_pick0 rfl rfl) rfl rfl rfl ?_
     cases hb_3
     exact WL.keep (by exact ⟨rfl, rfl, rfl, rfl, rfl, rfl, trivial⟩) K
   refine WL.nil ?_
   refine WT.cond rfl (fun c7 => ?_) (fun c7 => ?_)
   ·replace h := ite_t h c7
    refine sr <| lq (q_assign rfl) rfl <| WL.nil ?_
    refine WT.ret Tryz.func135 (resOk.one rfl) (fun w1 hw => ?_)
    subst hb0
    cases h
    exact post_of_St hw
   replace h := ite_f h c7
   refine WT.skip <| WT.inBlock <| WT.region <| lq (q_move rfl) rfl <| lq (q_add rfl rfl) rfl <| lq (q_assign rfl) rfl <| WL.nil ?_
   refine WT.inLoop (WT.mono (l' := [(0, pv0), (1, pv1), (2, .int .i64 p2), (7, .int .i64 s1), (8, .int .i64 (IntKind.i64.wrap (s2 + 1)))]) (S' := St w0 Φ [] []) ⟨rfl, rfl, rfl, rfl, rfl, trivial⟩ (fun w1 hw => (hw.sel (js := []) rfl).selO (js := []) rfl) ?_)
   exact ih2 (IntKind.i64.wrap (s2 + 1)) h
  replace h := ite_f h c5
  refine WT.exit rfl <| WT.inBlock <| WT.region <| lq (q_move rfl) rfl <| lq (q_add rfl rfl) rfl <| lq (q_assign rfl) rfl <| WL.nil ?_
  refine WT.inLoop (WT.mono (l' := [(0, pv0), (1, pv1), (2, .int .i64 p2), (7, .int .i64 (IntKind.i64.wrap (s1 + 1)))]) (S' := St w0 Φ [] []) ⟨rfl, rfl, rfl, rfl, trivial⟩ (fun w1 hw => (hw.sel (js := []) rfl).selO (js := []) rfl) ?_)
  exact ih1 (IntKind.i64.wrap (s1 + 1)) h
 replace h := ite_f h c1
 refine WT.exit rfl <| sr <| lq (q_move rfl) rfl <| lq (q_lenR Sl_47 rfl rfl ph0) rfl ?_
 obtain ⟨x12, hx12, h⟩ := bind_some h
 refine lp (p_call Fun_85 rfl (fun w1 hw => m_s_l1In_ok hw.fro N (p0.length : Int) 1 6 hx12)) rfl <| lq (q_assign rfl) rfl <| WL.nil ?_
 refine WT.ret Tryz.func135 (resOk.one rfl) (fun w1 hw => ?_)
 subst hb0
 cases h
 exact post_of_St hw
theorem m_s_RuleOk_ok {Φ : Hp} {w : World} (hΦ : In Φ w) (N : Nat) (p0 : TRule) {pv0_0 : Value} {pG0_0 : List Nat} {pv0_1 : Value} {pG0_1 : List Nat} {pv0_2 : Value} {pG0_2 : List Nat} (ph0_0 : RSl RTPat 3 Φ pG0_0 pv0_0 p0.Pats) (ph0_1 : RSl RTCond 11 Φ pG0_1 pv0_1 p0.Conds) (ph0_2 : RSl RTAct 5 Φ pG0_2 pv0_2 p0.Acts) {r : Bool} (h : m_s_RuleOk N p0 = some r) :
  Calls Tryz.prog 68 [.agg [.string p0.Name, .int .i64 p0.Sal, pv0_0, pv0_1, pv0_2].toArray].toArray w (Post (.bool r) w) := by
 refine enter Tryz.func68 rfl Tryz.ntmps68 rfl (St.start0 hΦ) ?_
 have pa0_0 : Old ⟨w, [], Φ⟩ pG0_0 := Old.mk hΦ ph0_0.kn (Dj.empty _)
 have pa0_1 : Old ⟨w, [], Φ⟩ pG0_1 := Old.mk hΦ ph0_1.kn (Dj.empty _)
 have pa0_2 : Old ⟨w, [], Φ⟩ pG0_2 := Old.mk hΦ ph0_2.kn (Dj.empty _)
 unfold m_s_RuleOk at h
 refine WT.seq <| WT.region ?_
 refine ln (n_box (C := #[.string p0.Name, .int .i64 p0.Sal, pv0_0, pv0_1, pv0_2]) rfl rfl) rfl (fun b_1 => ?_)
 refine lq (q_assign rfl) rfl <| WL.nil <| sr <| lq (q_loadN Tn_49 rfl (fun w1 hw => hw.rgO (i := 0) rfl 0 5 [.string p0.Name, .int .i64 p0.Sal, pv0_0, pv0_1, pv0_2] rfl) rfl) rfl ?_
 obtain ⟨x1, hx1, h⟩ := bind_some h
 refine lc (k_call (js := []) (R := []) Fun_115 rfl rfl (fun w1 hw ap hl => m_s_PosVars_ok hw.fro N p0 ph0_0 ph0_1 ph0_2  hx1)) rfl (fun v1 Φ_1 F1 q1 => ?_)
 obtain ⟨ap1, fr1, v2, rfl, rfl, h1⟩ := q1
 replace ph0_0 := ph0_0.frame RTPat.lasts fr1 (ap1.o pa0_0)
 replace ph0_1 := ph0_1.frame RTCond.lasts fr1 (ap1.o pa0_1)
 replace ph0_2 := ph0_2.frame RTAct.lasts fr1 (ap1.o pa0_2)
 refine lq (q_assign rfl) rfl <| WL.nil <| WT.seq <| WT.draw mixed (by kernel_rfl) (fun _ h => h.drew) <| qq (q_fieldAddr Fld_49_0 rfl) rfl <| qq (q_load1 T1_9 rfl (fun w1 hw => hw.rgO (i := 0) rfl 0 1 [.string p0.Name] rfl)) rfl ?_
 obtain ⟨x2, hx2, h⟩ := bind_some h
 refine qp (p_call Fun_84 rfl (fun w1 hw => m_s_NameOk_ok hw.fro N p0.Name hx2)) rfl <| qq (q_move rfl) rfl ?_
 obtain ⟨b1, hb_1, h⟩ := bind_some h
 refine WQ.cutN 4 [(13, .bool b1), (1, .pointer (some ⟨b_1, 0, none⟩)), (3, v1)] ?_ (fun K => ?_)
 rotate_left
 ·refine WQ.split (d := 9) rfl (fun c1 => ?_) (fun c1 => ?_)
  ·replace hb_1 := ite_t hb_1 c1
   refine WQ.yes rfl rfl <| qq (q_fieldAddr Fld_49_1 rfl) rfl <| WQ.yes rfl rfl <| qq (q_load1 T1_3 rfl (fun w1 hw => hw.rgO (i := 0) rfl 1 1 [.int .i64 p0.Sal] rfl)) rfl <| WQ.yes rfl rfl ?_
   obtain ⟨x3, hx3, hb_1⟩ := bind_some hb_1
   refine qp (p_call Fun_85 rfl (fun w1 hw => m_s_l1In_ok hw.fro N p0.Sal (-100) 100 hx3)) rfl <| WQ.q (q_pick1 rfl rfl) rfl rfl rfl ?_
   cases hb_1
   exact WQ.keep (by exact ⟨rfl, rfl, rfl, trivial⟩) K
  ·replace hb_1 := ite_f hb_1 c1
   refine WQ.no rfl rfl rfl rfl <| WQ.no rfl rfl rfl rfl <| WQ.no rfl rfl rfl rfl <| WQ.q (q_pick0 rfl rfl) rfl rfl rfl ?_
   cases hb_1
   exact WQ.keep (by exact ⟨rfl, rfl, rfl, trivial⟩) K
 refine qq (q_move rfl) rfl ?_
 obtain ⟨b2, hb_2, h⟩ := bind_some h
 refine WQ.cutN 4 [(18, .bool b2), (1, .pointer (some ⟨b_1, 0, none⟩)), (3, v1)] ?_ (fun K => ?_)
 rotate_left
 ·refine WQ.split (d := 14) rfl (fun c2 => ?_) (fun c2 => ?_)
  ·replace hb_2 := ite_t hb_2 c2
   refine WQ.yes rfl rfl <| qq (q_fieldAddr Fld_49_2 rfl) rfl <| WQ.yes rfl rfl <| qq (q_load1 T1_45 rfl (fun w1 hw => hw.rgO (i := 0) rfl 2 1 [pv0_0] rfl)) rfl <| WQ.yes rfl rfl ?_
   obtain ⟨x4, hx4, hb_2⟩ := bind_some hb_2
   refine qp (p_call Fun_133 rfl (fun w1 hw => m_s_l9Pats_ok hw.fro N p0.Pats ph0_0 hx4)) rfl <| WQ.q (q_pick1 rfl rfl) rfl rfl rfl ?_
   cases hb_2
   exact WQ.keep (by exact ⟨rfl, rfl, rfl, trivial⟩) K
  ·replace hb_2 := ite_f hb_2 c2
   refine WQ.no rfl rfl rfl rfl <| WQ.no rfl rfl rfl rfl <| WQ.no rfl rfl rfl rfl <| WQ.q (q_pick0 rfl rfl) rfl rfl rfl ?_
   cases hb_2
   exact WQ.keep (by exact ⟨rfl, rfl, rfl, trivial⟩) K
 refine qq (q_move rfl) rfl ?_
 obtain ⟨b3, hb_3, h⟩ := bind_some h
 refine WQ.cutN 5 [(24, .bool b3), (1, .pointer (some ⟨b_1, 0, none⟩)), (3, v1)] ?_ (fun K => ?_)
 rotate_left
 ·refine WQ.split (d := 19) rfl (fun c3 => ?_) (fun c3 => ?_)
  ·replace hb_3 := ite_t hb_3 c3
   refine WQ.yes rfl rfl <| qq (q_fieldAddr Fld_49_3 rfl) rfl <| WQ.yes rfl rfl <| qq (q_load1 T1_46 rfl (fun w1 hw => hw.rgO (i := 0) rfl 3 1 [pv0_1] rfl)) rfl <| WQ.yes rfl rfl <| qq (q_move rfl) rfl <| WQ.yes rfl rfl ?_
   obtain ⟨x5, hx5, hb_3⟩ := bind_some hb_3
   refine qp (p_call Fun_134 rfl (fun w1 hw => m_s_l9Conds_ok hw.fro N p0.Conds x1 ph0_1 h1.rsl hx5)) rfl <| WQ.q (q_pick1 rfl rfl) rfl rfl rfl ?_
   cases hb_3
   exact WQ.keep (by exact ⟨rfl, rfl, rfl, trivial⟩) K
  ·replace hb_3 := ite_f hb_3 c3
   refine WQ.no rfl rfl rfl rfl <| WQ.no rfl rfl rfl rfl <| WQ.no rfl rfl rfl rfl <| WQ.no rfl rfl rfl rfl <| WQ.q (q_pick0 rfl rfl) rfl rfl rfl ?_
   cases hb_3
   exact WQ.keep (by exact ⟨rfl, rfl, rfl, trivial⟩) K
 refine qq (q_move rfl) rfl ?_
 obtain ⟨b4, hb_4, h⟩ := bind_some h
 refine WQ.cutN 7 [(32, .bool b4)] ?_ (fun K => ?_)
 rotate_left
 ·refine WQ.split (d := 25) rfl (fun c4 => ?_) (fun c4 => ?_)
  ·replace hb_4 := ite_t hb_4 c4
   refine WQ.yes rfl rfl <| qq (q_fieldAddr Fld_49_4 rfl) rfl <| WQ.yes rfl rfl <| qq (q_load1 T1_47 rfl (fun w1 hw => hw.rgO (i := 0) rfl 4 1 [pv0_2] rfl)) rfl <| WQ.yes rfl rfl <| qq (q_move rfl) rfl <| WQ.yes rfl rfl <| qq (q_loadN Tn_49 rfl (fun w1 hw => hw.rgO (i := 0) rfl 0 5 [.string p0.Name, .int .i64 p0.Sal, pv0_0, pv0_1, pv0_2] rfl) rfl) rfl <| WQ.yes rfl rfl ?_
   obtain ⟨x6, hx6, hb_4⟩ := bind_some hb_4
   refine qp (p_call Fun_119 rfl (fun w1 hw => m_s_PosCount_ok hw.fro N p0 ph0_0 ph0_1 ph0_2 hx6)) rfl <| WQ.yes rfl rfl ?_
   obtain ⟨x7, hx7, hb_4⟩ := bind_some hb_4
   refine qp (p_call Fun_135 rfl (fun w1 hw => m_s_l9Acts_ok hw.fro N p0.Acts x1 x6 ph0_2 h1.rsl hx7)) rfl <| WQ.q (q_pick1 rfl rfl) rfl rfl rfl ?_
   cases hb_4
   exact WQ.keep (by exact ⟨rfl, trivial⟩) K
  ·replace hb_4 := ite_f hb_4 c4
   refine WQ.no rfl rfl rfl rfl <| WQ.no rfl rfl rfl rfl <| WQ.no rfl rfl rfl rfl <| WQ.no rfl rfl rfl rfl <| WQ.no rfl rfl rfl rfl <| WQ.no rfl rfl rfl rfl <| WQ.q (q_pick0 rfl rfl) rfl rfl rfl ?_
   cases hb_4
   exact WQ.keep (by exact ⟨rfl, trivial⟩) K
 refine qq (q_assign rfl) rfl <| WQ.nil ?_
 refine WT.ret Tryz.func68 (resOk.one rfl) (fun w1 hw => ?_)
 cases h
 exact post_of_St hw
theorem m_s_RuleAt_ok {Φ : Hp} {w : World} (hΦ : In Φ w) (N : Nat) (p0 : TDef) (p1 : ByteArray) {pv0_0 : Value} {pG0_0 : List Nat} (ph0_0 : RSl RTRule 5 Φ pG0_0 pv0_0 p0.Rules) {r : Int} (h : m_s_RuleAt N p0 p1 = some r) :
  Calls Tryz.prog 83 [.agg [.string p0.Name, pv0_0].toArray, .string p1].toArray w (Post (.int .i64 r) w) := by
 refine enter Tryz.func83 rfl Tryz.ntmps83 rfl (St.start0 hΦ) ?_
 generalize hb0 : (⟨w, [], Φ⟩ : Base) = w0
 unfold m_s_RuleAt at h
 refine WT.seq <| WT.region ?_
 refine ln (n_box (C := #[.string p0.Name, pv0_0]) rfl rfl) rfl (fun b_1 => ?_)
 refine lq (q_assign rfl) rfl <| WL.nil <| WT.seq <| sr <| lq (q_assign rfl) rfl <| WL.nil <| WT.block <| WT.loop <| WT.mono (l' := [(1, .string p1), (2, .pointer (some ⟨b_1, 0, none⟩)), (5, .int .i64 0)]) (S' := St w0 Φ [(b_1, .cells #[.string p0.Name, pv0_0] 30 (0, 0))] []) ⟨rfl, rfl, rfl, trivial⟩ (fun w1 hw => (hw.sel (js := []) rfl).selO (js := [0]) rfl) ?_
 refine loop_ind (σ := Int) (fun s => [(1, .string p1), (2, .pointer (some ⟨b_1, 0, none⟩)), (5, .int .i64 s)]) (fun s => St w0 Φ [(b_1, .cells #[.string p0.Name, pv0_0] 30 (0, 0))] []) (fun m s => m_s_RuleAt_l1 N p0 p1 m s = some r) (fun s hm => none_ne (show (none : Option (Int)) = some r from hm)) (fun n1 ih1 s hm => ?_) N (0) h
 revert hm; revert s; intro s1 hm
 have h : m_s_RuleAt_l1 N p0 p1 (n1 + 1) s1 = some r := hm
 show WT _ _ [(1, .string p1), (2, .pointer (some ⟨b_1, 0, none⟩)), (5, .int .i64 s1)] (St w0 Φ [(b_1, .cells #[.string p0.Name, pv0_0] 30 (0, 0))] [])
 unfold m_s_RuleAt_l1 at h
 refine WT.seq <| sr <| lq (q_move rfl) rfl <| lq (q_fieldAddr Fld_30_1 rfl) rfl <| lq (q_load1 T1_28 rfl (fun w1 hw => hw.rgO (i := 0) rfl 1 1 [pv0_0] rfl)) rfl <| lq (q_lenR Sl_28 rfl rfl ph0_0) rfl <| lq (q_lss rfl rfl) rfl <| WL.nil ?_
 refine WT.cond rfl (fun c1 => ?_) (fun c1 => ?_)
 ·replace h := ite_t h c1
  refine WT.skip <| WT.seq <| WT.block <| sr <| lq (q_fieldAddr Fld_30_1 rfl) rfl <| lq (q_load1 T1_28 rfl (fun w1 hw => hw.rgO (i := 0) rfl 1 1 [pv0_0] rfl)) rfl <| lq (q_move rfl) rfl ?_
  obtain ⟨x1, hx1, h⟩ := bind_some h
  obtain ⟨cs1, F1, -, g1, hb1, hs1, r1⟩ := ph0_0.el (idx_some hx1).2.2
  obtain ⟨v1, G1, v2, G2, v3, G3, rfl, rfl, h1, h2, h3⟩ := r1
  refine lq (q_indexAddr Sl_28 rfl rfl ph0_0 hx1) rfl <| lq (q_fieldAddr Fld_49_0 rfl) rfl <| lq (q_load1 T1_9 rfl (fun w1 hw => (g1.of_eq 0 1 rfl rfl : rg _ _ _ [.string x1.Name]).rangeAt hw.fro)) rfl <| lq (q_move rfl) rfl <| lq (q_seq rfl rfl) rfl <| WL.nil ?_
  refine WT.cond rfl (fun c2 => ?_) (fun c2 => ?_)
  ·replace h := ite_t h c2
   refine sr <| lq (q_move rfl) rfl <| lq (q_assign rfl) rfl <| WL.nil ?_
   refine WT.ret Tryz.func83 (resOk.one rfl) (fun w1 hw => ?_)
   subst hb0
   cases h
   exact post_of_St hw
  replace h := ite_f h c2
  refine WT.skip <| WT.inBlock <| WT.region <| lq (q_move rfl) rfl <| lq (q_add rfl rfl) rfl <| lq (q_assign rfl) rfl <| WL.nil ?_
  refine WT.inLoop (WT.mono (l' := [(1, .string p1), (2, .pointer (some ⟨b_1, 0, none⟩)), (5, .int .i64 (IntKind.i64.wrap (s1 + 1)))]) (S' := St w0 Φ [(b_1, .cells #[.string p0.Name, pv0_0] 30 (0, 0))] []) ⟨rfl, rfl, rfl, trivial⟩ (fun w1 hw => (hw.sel (js := []) rfl).selO (js := [0]) rfl) ?_)
  exact ih1 (IntKind.i64.wrap (s1 + 1)) h
 replace h := ite_f h c1
 refine WT.exit rfl <| sr <| lq (q_assign rfl) rfl <| WL.nil ?_
 refine WT.ret Tryz.func83 (resOk.one rfl) (fun w1 hw => ?_)
 subst hb0
 cases h
 exact post_of_St hw
theorem m_s_DefOk_ok {Φ : Hp} {w : World} (hΦ : In Φ w) (N : Nat) (p0 : TDef) {pv0_0 : Value} {pG0_0 : List Nat} (ph0_0 : RSl RTRule 5 Φ pG0_0 pv0_0 p0.Rules) {r : Bool} (h : m_s_DefOk N p0 = some r) :
  Calls Tryz.prog 31 [.agg [.string p0.Name, pv0_0].toArray].toArray w (Post (.bool r) w) := by
 refine enter Tryz.func31 rfl Tryz.ntmps31 rfl (St.start0 hΦ) ?_
 generalize hb0 : (⟨w, [], Φ⟩ : Base) = w0
 unfold m_s_DefOk at h
 refine WT.seq <| WT.region ?_
 refine ln (n_box (C := #[.string p0.Name, pv0_0]) rfl rfl) rfl (fun b_1 => ?_)
 refine lq (q_assign rfl) rfl <| WL.nil <| WT.seq <| sr <| lq (q_assign rfl) rfl <| WL.nil <| WT.block <| WT.loop <| WT.mono (l' := [(1, .pointer (some ⟨b_1, 0, none⟩)), (3, .int .i64 0)]) (S' := St w0 Φ [(b_1, .cells #[.string p0.Name, pv0_0] 30 (0, 0))] []) ⟨rfl, rfl, trivial⟩ (fun w1 hw => (hw.sel (js := []) rfl).selO (js := [0]) rfl) ?_
 refine loop_ind (σ := Int) (fun s => [(1, .pointer (some ⟨b_1, 0, none⟩)), (3, .int .i64 s)]) (fun s => St w0 Φ [(b_1, .cells #[.string p0.Name, pv0_0] 30 (0, 0))] []) (fun m s => m_s_DefOk_l1 N p0 m s = some r) (fun s hm => none_ne (show (none : Option (Bool)) = some r from hm)) (fun n1 ih1 s hm => ?_) N (0) h
 revert hm; revert s; intro s1 hm
 have h : m_s_DefOk_l1 N p0 (n1 + 1) s1 = some r := hm
 show WT _ _ [(1, .pointer (some ⟨b_1, 0, none⟩)), (3, .int .i64 s1)] (St w0 Φ [(b_1, .cells #[.string p0.Name, pv0_0] 30 (0, 0))] [])
 unfold m_s_DefOk_l1 at h
 refine WT.seq <| sr <| lq (q_move rfl) rfl <| lq (q_fieldAddr Fld_30_1 rfl) rfl <| lq (q_load1 T1_28 rfl (fun w1 hw => hw.rgO (i := 0) rfl 1 1 [pv0_0] rfl)) rfl <| lq (q_lenR Sl_28 rfl rfl ph0_0) rfl <| lq (q_lss rfl rfl) rfl <| WL.nil ?_
 refine WT.cond rfl (fun c1 => ?_) (fun c1 => ?_)
 ·replace h := ite_t h c1
  refine WT.skip <| WT.seq <| WT.block <| WT.seq <| WT.draw mixed (by kernel_rfl) (fun _ h => h.drew) <| qq (q_fieldAddr Fld_30_1 rfl) rfl <| qq (q_load1 T1_28 rfl (fun w1 hw => hw.rgO (i := 0) rfl 1 1 [pv0_0] rfl)) rfl <| qq (q_move rfl) rfl ?_
  obtain ⟨x1, hx1, h⟩ := bind_some h
  obtain ⟨cs1, F1, -, g1, hb1, hs1, r1⟩ := ph0_0.el (idx_some hx1).2.2
  obtain ⟨v1, G1, v2, G2, v3, G3, rfl, rfl, h1, h2, h3⟩ := r1
  refine qq (q_indexAddr Sl_28 rfl rfl ph0_0 hx1) rfl <| qq (q_loadN Tn_49 rfl (fun w1 hw => (g1.of_eq 0 5 rfl rfl : rg _ _ _ [.string x1.Name, .int .i64 x1.Sal, v1, v2, v3]).rangeAt hw.fro) rfl) rfl ?_
  obtain ⟨x2, hx2, h⟩ := bind_some h
  refine qp (p_call Fun_68 rfl (fun w1 hw => m_s_RuleOk_ok hw.fro N x1 h1 h2 h3 hx2)) rfl <| qq (q_not rfl) rfl <| qq (q_move rfl) rfl ?_
  obtain ⟨b1, hb_1, h⟩ := bind_some h
  refine WQ.cutN 11 [(29, .bool b1), (1, .pointer (some ⟨b_1, 0, none⟩)), (3, .int .i64 s1)] ?_ (fun K => ?_)
  rotate_left
  ·refine WQ.split (d := 18) rfl (fun c2 => ?_) (fun c2 => ?_)
   ·replace hb_1 := ite_t hb_1 c2
    refine WQ.no rfl rfl rfl rfl <| WQ.no rfl rfl rfl rfl <| WQ.no rfl rfl rfl rfl <| WQ.no rfl rfl rfl rfl <| WQ.no rfl rfl rfl rfl <| WQ.no rfl rfl rfl rfl <| WQ.no rfl rfl rfl rfl <| WQ.no rfl rfl rfl rfl <| WQ.no rfl rfl rfl rfl <| WQ.no rfl rfl rfl rfl <| WQ.q (q_pick1 rfl rfl) rfl rfl rfl ?_
    cases hb_1
    exact WQ.keep (by exact ⟨rfl, rfl, rfl, trivial⟩) K
   ·replace hb_1 := ite_f hb_1 c2
    refine WQ.yes rfl rfl <| qq (q_loadN Tn_30 rfl (fun w1 hw => hw.rgO (i := 0) rfl 0 2 [.string p0.Name, pv0_0] rfl) rfl) rfl <| WQ.yes rfl rfl <| qq (q_fieldAddr Fld_30_1 rfl) rfl <| WQ.yes rfl rfl <| qq (q_load1 T1_28 rfl (fun w1 hw => hw.rgO (i := 0) rfl 1 1 [pv0_0] rfl)) rfl <| WQ.yes rfl rfl <| qq (q_move rfl) rfl <| WQ.yes rfl rfl ?_
    obtain ⟨x3, hx3, hb_1⟩ := bind_some hb_1
    obtain ⟨cs2, F2, -, g2, hb2, hs2, r2⟩ := ph0_0.el (idx_some hx3).2.2
    obtain ⟨v4, G4, v5, G5, v6, G6, rfl, rfl, h4, h5, h6⟩ := r2
    refine qq (q_indexAddr Sl_28 rfl rfl ph0_0 hx3) rfl <| WQ.yes rfl rfl <| qq (q_fieldAddr Fld_49_0 rfl) rfl <| WQ.yes rfl rfl <| qq (q_load1 T1_9 rfl (fun w1 hw => (g2.of_eq 0 1 rfl rfl : rg _ _ _ [.string x3.Name]).rangeAt hw.fro)) rfl <| WQ.yes rfl rfl ?_
    obtain ⟨x4, hx4, hb_1⟩ := bind_some hb_1
    refine qp (p_call Fun_83 rfl (fun w1 hw => m_s_RuleAt_ok hw.fro N p0 x3.Name ph0_0 hx4)) rfl <| WQ.yes rfl rfl <| qq (q_move rfl) rfl <| WQ.yes rfl rfl <| qq (q_neq rfl rfl) rfl <| WQ.q (q_pick0 rfl rfl) rfl rfl rfl ?_
    cases hb_1
    exact WQ.keep (by exact ⟨rfl, rfl, rfl, trivial⟩) K
  refine WQ.nil ?_
  refine WT.cond rfl (fun c3 => ?_) (fun c3 => ?_)
  ·replace h := ite_t h c3
   refine sr <| lq (q_assign rfl) rfl <| WL.nil ?_
   refine WT.ret Tryz.func31 (resOk.one rfl) (fun w1 hw => ?_)
   subst hb0
   cases h
   exact post_of_St hw
  replace h := ite_f h c3
  refine WT.skip <| WT.inBlock <| WT.region <| lq (q_move rfl) rfl <| lq (q_add rfl rfl) rfl <| lq (q_assign rfl) rfl <| WL.nil ?_
  refine WT.inLoop (WT.mono (l' := [(1, .pointer (some ⟨b_1, 0, none⟩)), (3, .int .i64 (IntKind.i64.wrap (s1 + 1)))]) (S' := St w0 Φ [(b_1, .cells #[.string p0.Name, pv0_0] 30 (0, 0))] []) ⟨rfl, rfl, trivial⟩ (fun w1 hw => (hw.sel (js := []) rfl).selO (js := [0]) rfl) ?_)
  exact ih1 (IntKind.i64.wrap (s1 + 1)) h
 replace h := ite_f h c1
 refine WT.exit rfl <| sr <| lq (q_fieldAddr Fld_30_0 rfl) rfl <| lq (q_load1 T1_9 rfl (fun w1 hw => hw.rgO (i := 0) rfl 0 1 [.string p0.Name] rfl)) rfl ?_
 obtain ⟨x5, hx5, h⟩ := bind_some h
 refine lp (p_call Fun_84 rfl (fun w1 hw => m_s_NameOk_ok hw.fro N p0.Name hx5)) rfl <| lq (q_move rfl) rfl ?_
 obtain ⟨b2, hb_2, h⟩ := bind_some h
 refine WL.cutN 5 [(38, .bool b2)] ?_ (fun K => ?_)
 rotate_left
 ·refine WL.split (d := 33) rfl (fun c4 => ?_) (fun c4 => ?_)
  ·replace hb_2 := ite_t hb_2 c4
   refine WL.yes rfl rfl <| lq (q_fieldAddr Fld_30_1 rfl) rfl <| WL.yes rfl rfl <| lq (q_load1 T1_28 rfl (fun w1 hw => hw.rgO (i := 0) rfl 1 1 [pv0_0] rfl)) rfl <| WL.yes rfl rfl <| lq (q_lenR Sl_28 rfl rfl ph0_0) rfl <| WL.yes rfl rfl ?_
   obtain ⟨x6, hx6, hb_2⟩ := bind_some hb_2
   refine lp (p_call Fun_85 rfl (fun w1 hw => m_s_l1In_ok hw.fro N (p0.Rules.length : Int) 1 12 hx6)) rfl <| WL.q (q_pick1 rfl rfl) rfl rfl rfl ?_
   cases hb_2
   exact WL.keep (by exact ⟨rfl, trivial⟩) K
  ·replace hb_2 := ite_f hb_2 c4
   refine WL.no rfl rfl rfl rfl <| WL.no rfl rfl rfl rfl <| WL.no rfl rfl rfl rfl <| WL.no rfl rfl rfl rfl <| WL.q (q_pick0 rfl rfl) rfl rfl rfl ?_
   cases hb_2
   exact WL.keep (by exact ⟨rfl, trivial⟩) K
 refine lq (q_assign rfl) rfl <| WL.nil ?_
 refine WT.ret Tryz.func31 (resOk.one rfl) (fun w1 hw => ?_)
 subst hb0
 cases h
 exact post_of_St hw
theorem m_s_l12Same_ok {Φ : Hp} {w : World} (hΦ : In Φ w) (N : Nat) (p0 : TNet) (p1 : TNet) {pv0_0 : Value} {pG0_0 : List Nat} {pv0_1 : Value} {pG0_1 : List Nat} {pv1_0 : Value} {pG1_0 : List Nat} {pv1_1 : Value} {pG1_1 : List Nat} (ph0_0 : RSl RTAlpha 4 Φ pG0_0 pv0_0 p0.Alphas) (ph0_1 : RSl RTChain 2 Φ pG0_1 pv0_1 p0.Chains) (ph1_0 : RSl RTAlpha 4 Φ pG1_0 pv1_0 p1.Alphas) (ph1_1 : RSl RTChain 2 Φ pG1_1 pv1_1 p1.Chains) {r : Bool} (h : m_s_l12Same N p0 p1 = some r) :
  Calls Tryz.prog 55 [.agg [pv0_0, pv0_1].toArray, .agg [pv1_0, pv1_1].toArray].toArray w (Post (.bool r) w) := by
 refine enter Tryz.func55 rfl Tryz.ntmps55 rfl (St.start0 hΦ) ?_
 generalize hb0 : (⟨w, [], Φ⟩ : Base) = w0
 unfold m_s_l12Same at h
 refine WT.seq <| WT.region ?_
 refine ln (n_box (C := #[pv0_0, pv0_1]) rfl rfl) rfl (fun b_1 => ?_)
 refine ln (n_box (C := #[pv1_0, pv1_1]) rfl rfl) rfl (fun b_2 => ?_)
 refine lq (q_assign rfl) rfl <| WL.nil <| WT.seq <| sr <| lq (q_fieldAddr Fld_27_0 rfl) rfl <| lq (q_load1 T1_24 rfl (fun w1 hw => hw.rgO (i := 1) rfl 0 1 [pv0_0] rfl)) rfl <| lq (q_lenR Sl_24 rfl rfl ph0_0) rfl <| lq (q_fieldAddr Fld_27_0 rfl) rfl <| lq (q_load1 T1_24 rfl (fun w1 hw => hw.rgO (i := 0) rfl 0 1 [pv1_0] rfl)) rfl <| lq (q_lenR Sl_24 rfl rfl ph1_0) rfl <| lq (q_neq rfl rfl) rfl <| lq (q_move rfl) rfl ?_
 obtain ⟨b1, hb_1, h⟩ := bind_some h
 refine WL.cutN 8 [(22, .bool b1), (2, .pointer (some ⟨b_1, 0, none⟩)), (3, .pointer (some ⟨b_2, 0, none⟩))] ?_ (fun K => ?_)
 rotate_left
 ·refine WL.split (d := 14) rfl (fun c1 => ?_) (fun c1 => ?_)
  ·replace hb_1 := ite_t hb_1 c1
   refine WL.no rfl rfl rfl rfl <| WL.no rfl rfl rfl rfl <| WL.no rfl rfl rfl rfl <| WL.no rfl rfl rfl rfl <| WL.no rfl rfl rfl rfl <| WL.no rfl rfl rfl rfl <| WL.no rfl rfl rfl rfl <| WL.q (q_pick1 rfl rfl) rfl rfl rfl ?_
   cases hb_1
   exact WL.keep (by exact ⟨rfl, rfl, rfl, trivial⟩) K
  ·replace hb_1 := ite_f hb_1 c1
   refine WL.yes rfl rfl <| lq (q_fieldAddr Fld_27_1 rfl) rfl <| WL.yes rfl rfl <| lq (q_load1 T1_25 rfl (fun w1 hw => hw.rgO (i := 1) rfl 1 1 [pv0_1] rfl)) rfl <| WL.yes rfl rfl <| lq (q_lenR Sl_25 rfl rfl ph0_1) rfl <| WL.yes rfl rfl <| lq (q_fieldAddr Fld_27_1 rfl) rfl <| WL.yes rfl rfl <| lq (q_load1 T1_25 rfl (fun w1 hw => hw.rgO (i := 0) rfl 1 1 [pv1_1] rfl)) rfl <| WL.yes rfl rfl <| lq (q_lenR Sl_25 rfl rfl ph1_1) rfl <| WL.yes rfl rfl <| lq (q_neq rfl rfl) rfl ?_
   refine WL.q (q_pick0 rfl rfl) rfl rfl rfl ?_
   cases hb_1
   exact WL.keep (by exact ⟨rfl, rfl, rfl, trivial⟩) K
 refine WL.nil ?_
 refine WT.cond rfl (fun c2 => ?_) (fun c2 => ?_)
 ·replace h := ite_t h c2
  refine sr <| lq (q_assign rfl) rfl <| WL.nil ?_
  refine WT.ret Tryz.func55 (resOk.one rfl) (fun w1 hw => ?_)
  subst hb0
  cases h
  exact post_of_St hw
 replace h := ite_f h c2
 refine WT.skip <| WT.seq <| sr <| lq (q_assign rfl) rfl <| WL.nil <| WT.block <| WT.loop <| WT.mono (l' := [(2, .pointer (some ⟨b_1, 0, none⟩)), (3, .pointer (some ⟨b_2, 0, none⟩)), (5, .int .i64 0)]) (S' := St w0 Φ [(b_2, .cells #[pv1_0, pv1_1] 27 (0, 0)), (b_1, .cells #[pv0_0, pv0_1] 27 (0, 0))] []) ⟨rfl, rfl, rfl, trivial⟩ (fun w1 hw => (hw.sel (js := []) rfl).selO (js := [0, 0]) rfl) ?_
 refine loop_ind (σ := Int) (fun s => [(2, .pointer (some ⟨b_1, 0, none⟩)), (3, .pointer (some ⟨b_2, 0, none⟩)), (5, .int .i64 s)]) (fun s => St w0 Φ [(b_2, .cells #[pv1_0, pv1_1] 27 (0, 0)), (b_1, .cells #[pv0_0, pv0_1] 27 (0, 0))] []) (fun m s => m_s_l12Same_l1 N p0 p1 m s = some r) (fun s hm => none_ne (show (none : Option (Bool)) = some r from hm)) (fun n1 ih1 s hm => ?_) N (0) h
 revert hm; revert s; intro s1 hm
 have h : m_s_l12Same_l1 N p0 p1 (n1 + 1) s1 = some r := hm
 show WT _ _ [(2, .pointer (some ⟨b_1, 0, none⟩)), (3, .pointer (some ⟨b_2, 0, none⟩)), (5, .int .i64 s1)] (St w0 Φ [(b_2, .cells #[pv1_0, pv1_1] 27 (0, 0)), (b_1, .cells #[pv0_0, pv0_1] 27 (0, 0))] [])
 unfold m_s_l12Same_l1 at h
 refine WT.seq <| sr <| lq (q_move rfl) rfl <| lq (q_fieldAddr Fld_27_0 rfl) rfl <| lq (q_load1 T1_24 rfl (fun w1 hw => hw.rgO (i := 1) rfl 0 1 [pv0_0] rfl)) rfl <| lq (q_lenR Sl_24 rfl rfl ph0_0) rfl <| lq (q_lss rfl rfl) rfl <| WL.nil ?_
 refine WT.cond rfl (fun c3 => ?_) (fun c3 => ?_)
 ·replace h := ite_t h c3
  refine WT.skip <| WT.seq <| WT.block <| WT.seq <| WT.draw mixed (by kernel_rfl) (fun _ h => h.drew) <| qq (q_fieldAddr Fld_27_0 rfl) rfl <| qq (q_load1 T1_24 rfl (fun w1 hw => hw.rgO (i := 1) rfl 0 1 [pv0_0] rfl)) rfl <| qq (q_move rfl) rfl ?_
  obtain ⟨x1, hx1, h⟩ := bind_some h
  obtain ⟨cs1, F1, -, g1, hb1, hs1, r1⟩ := ph0_0.el (idx_some hx1).2.2
  obtain ⟨v1, G1, v2, G2, rfl, rfl, h1, h2⟩ := r1
  refine qq (q_indexAddr Sl_24 rfl rfl ph0_0 hx1) rfl <| qq (q_loadN Tn_102 rfl (fun w1 hw => (g1.of_eq 0 4 rfl rfl : rg _ _ _ [.string x1.Kind, .int .i64 x1.N, v1, v2]).rangeAt hw.fro) rfl) rfl <| qq (q_fieldAddr Fld_27_0 rfl) rfl <| qq (q_load1 T1_24 rfl (fun w1 hw => hw.rgO (i := 0) rfl 0 1 [pv1_0] rfl)) rfl <| qq (q_move rfl) rfl ?_
  obtain ⟨x2, hx2, h⟩ := bind_some h
  obtain ⟨cs2, F2, -, g2, hb2, hs2, r2⟩ := ph1_0.el (idx_some hx2).2.2
  obtain ⟨v3, G3, v4, G4, rfl, rfl, h3, h4⟩ := r2
  refine qq (q_indexAddr Sl_24 rfl rfl ph1_0 hx2) rfl <| qq (q_loadN Tn_102 rfl (fun w1 hw => (g2.of_eq 0 4 rfl rfl : rg _ _ _ [.string x2.Kind, .int .i64 x2.N, v3, v4]).rangeAt hw.fro) rfl) rfl ?_
  obtain ⟨x3, hx3, h⟩ := bind_some h
  refine qp (p_call Fun_111 rfl (fun w1 hw => m_s_SameAlpha_ok hw.fro N x1 x2 h1 h2 h3 h4 hx3)) rfl <| qq (q_not rfl) rfl <| WQ.nil ?_
  refine WT.cond rfl (fun c4 => ?_) (fun c4 => ?_)
  ·replace h := ite_t h c4
   refine sr <| lq (q_assign rfl) rfl <| WL.nil ?_
   refine WT.ret Tryz.func55 (resOk.one rfl) (fun w1 hw => ?_)
   subst hb0
   cases h
   exact post_of_St hw
  replace h := ite_f h c4
  refine WT.skip <| WT.inBlock <| WT.region <| lq (q_move rfl) rfl <| lq (q_add rfl rfl) rfl <| lq (q_assign rfl) rfl <| WL.nil ?_
  refine WT.inLoop (WT.mono (l' := [(2, .pointer (some ⟨b_1, 0, none⟩)), (3, .pointer (some ⟨b_2, 0, none⟩)), (5, .int .i64 (IntKind.i64.wrap (s1 + 1)))]) (S' := St w0 Φ [(b_2, .cells #[pv1_0, pv1_1] 27 (0, 0)), (b_1, .cells #[pv0_0, pv0_1] 27 (0, 0))] []) ⟨rfl, rfl, rfl, trivial⟩ (fun w1 hw => (hw.sel (js := []) rfl).selO (js := [0, 0]) rfl) ?_)
  exact ih1 (IntKind.i64.wrap (s1 + 1)) h
 replace h := ite_f h c3
 refine WT.exit rfl <| WT.seq <| sr <| lq (q_assign rfl) rfl <| WL.nil <| WT.block <| WT.loop <| WT.mono (l' := [(2, .pointer (some ⟨b_1, 0, none⟩)), (3, .pointer (some ⟨b_2, 0, none⟩)), (6, .int .i64 0)]) (S' := St w0 Φ [(b_2, .cells #[pv1_0, pv1_1] 27 (0, 0)), (b_1, .cells #[pv0_0, pv0_1] 27 (0, 0))] []) ⟨rfl, rfl, rfl, trivial⟩ (fun w1 hw => (hw.sel (js := []) rfl).selO (js := [0, 0]) rfl) ?_
 refine loop_ind (σ := Int) (fun s => [(2, .pointer (some ⟨b_1, 0, none⟩)), (3, .pointer (some ⟨b_2, 0, none⟩)), (6, .int .i64 s)]) (fun s => St w0 Φ [(b_2, .cells #[pv1_0, pv1_1] 27 (0, 0)), (b_1, .cells #[pv0_0, pv0_1] 27 (0, 0))] []) (fun m s => m_s_l12Same_l2 N p0 p1 m s = some r) (fun s hm => none_ne (show (none : Option (Bool)) = some r from hm)) (fun n2 ih2 s hm => ?_) N (0) h
 revert hm; revert s; intro s2 hm
 have h : m_s_l12Same_l2 N p0 p1 (n2 + 1) s2 = some r := hm
 show WT _ _ [(2, .pointer (some ⟨b_1, 0, none⟩)), (3, .pointer (some ⟨b_2, 0, none⟩)), (6, .int .i64 s2)] (St w0 Φ [(b_2, .cells #[pv1_0, pv1_1] 27 (0, 0)), (b_1, .cells #[pv0_0, pv0_1] 27 (0, 0))] [])
 unfold m_s_l12Same_l2 at h
 refine WT.seq <| sr <| lq (q_move rfl) rfl <| lq (q_fieldAddr Fld_27_1 rfl) rfl <| lq (q_load1 T1_25 rfl (fun w1 hw => hw.rgO (i := 1) rfl 1 1 [pv0_1] rfl)) rfl <| lq (q_lenR Sl_25 rfl rfl ph0_1) rfl <| lq (q_lss rfl rfl) rfl <| WL.nil ?_
 refine WT.cond rfl (fun c5 => ?_) (fun c5 => ?_)
 ·replace h := ite_t h c5
  refine WT.skip <| WT.seq <| WT.block <| WT.seq <| WT.draw mixed (by kernel_rfl) (fun _ h => h.drew) <| qq (q_fieldAddr Fld_27_1 rfl) rfl <| qq (q_load1 T1_25 rfl (fun w1 hw => hw.rgO (i := 1) rfl 1 1 [pv0_1] rfl)) rfl <| qq (q_move rfl) rfl ?_
  obtain ⟨x4, hx4, h⟩ := bind_some h
  obtain ⟨cs3, F3, -, g3, hb3, hs3, r3⟩ := ph0_1.el (idx_some hx4).2.2
  obtain ⟨v5, G5, v6, G6, rfl, rfl, h5, h6⟩ := r3
  refine qq (q_indexAddr Sl_25 rfl rfl ph0_1 hx4) rfl <| qq (q_fieldAddr Fld_43_0 rfl) rfl <| qq (q_load1 T1_41 rfl (fun w1 hw => (g3.of_eq 0 1 rfl rfl : rg _ _ _ [v5]).rangeAt hw.fro)) rfl <| qq (q_fieldAddr Fld_27_1 rfl) rfl <| qq (q_load1 T1_25 rfl (fun w1 hw => hw.rgO (i := 0) rfl 1 1 [pv1_1] rfl)) rfl <| qq (q_move rfl) rfl ?_
  obtain ⟨x5, hx5, h⟩ := bind_some h
  obtain ⟨cs4, F4, -, g4, hb4, hs4, r4⟩ := ph1_1.el (idx_some hx5).2.2
  obtain ⟨v7, G7, v8, G8, rfl, rfl, h7, h8⟩ := r4
  refine qq (q_indexAddr Sl_25 rfl rfl ph1_1 hx5) rfl <| qq (q_fieldAddr Fld_43_0 rfl) rfl <| qq (q_load1 T1_41 rfl (fun w1 hw => (g4.of_eq 0 1 rfl rfl : rg _ _ _ [v7]).rangeAt hw.fro)) rfl ?_
  obtain ⟨x6, hx6, h⟩ := bind_some h
  refine qp (p_call Fun_112 rfl (fun w1 hw => m_s_l11Same_ok hw.fro N x4.Pos x5.Pos h5 h7 hx6)) rfl <| qq (q_not rfl) rfl <| qq (q_move rfl) rfl ?_
  obtain ⟨b2, hb_2, h⟩ := bind_some h
  refine WQ.cutN 15 [(78, .bool b2), (2, .pointer (some ⟨b_1, 0, none⟩)), (3, .pointer (some ⟨b_2, 0, none⟩)), (6, .int .i64 s2)] ?_ (fun K => ?_)
  rotate_left
  ·refine WQ.split (d := 63) rfl (fun c6 => ?_) (fun c6 => ?_)
   ·replace hb_2 := ite_t hb_2 c6
    refine WQ.no rfl rfl rfl rfl <| WQ.no rfl rfl rfl rfl <| WQ.no rfl rfl rfl rfl <| WQ.no rfl rfl rfl rfl <| WQ.no rfl rfl rfl rfl <| WQ.no rfl rfl rfl rfl <| WQ.no rfl rfl rfl rfl <| WQ.no rfl rfl rfl rfl <| WQ.no rfl rfl rfl rfl <| WQ.no rfl rfl rfl rfl <| WQ.no rfl rfl rfl rfl <| WQ.no rfl rfl rfl rfl <| WQ.no rfl rfl rfl rfl <| WQ.no rfl rfl rfl rfl <| WQ.q (q_pick1 rfl rfl) rfl rfl rfl ?_
    cases hb_2
    exact WQ.keep (by exact ⟨rfl, rfl, rfl, rfl, trivial⟩) K
   ·replace hb_2 := ite_f hb_2 c6
    refine WQ.yes rfl rfl <| qq (q_fieldAddr Fld_27_1 rfl) rfl <| WQ.yes rfl rfl <| qq (q_load1 T1_25 rfl (fun w1 hw => hw.rgO (i := 1) rfl 1 1 [pv0_1] rfl)) rfl <| WQ.yes rfl rfl <| qq (q_move rfl) rfl <| WQ.yes rfl rfl ?_
    obtain ⟨x7, hx7, hb_2⟩ := bind_some hb_2
    obtain ⟨cs5, F5, -, g5, hb5, hs5, r5⟩ := ph0_1.el (idx_some hx7).2.2
    obtain ⟨v9, G9, v10, G10, rfl, rfl, h9, h10⟩ := r5
    refine qq (q_indexAddr Sl_25 rfl rfl ph0_1 hx7) rfl <| WQ.yes rfl rfl <| qq (q_fieldAddr Fld_43_1 rfl) rfl <| WQ.yes rfl rfl <| qq (q_load1 T1_41 rfl (fun w1 hw => (g5.of_eq 1 1 rfl rfl : rg _ _ _ [v10]).rangeAt hw.fro)) rfl <| WQ.yes rfl rfl <| qq (q_fieldAddr Fld_27_1 rfl) rfl <| WQ.yes rfl rfl <| qq (q_load1 T1_25 rfl (fun w1 hw => hw.rgO (i := 0) rfl 1 1 [pv1_1] rfl)) rfl <| WQ.yes rfl rfl <| qq (q_move rfl) rfl <| WQ.yes rfl rfl ?_
    obtain ⟨x8, hx8, hb_2⟩ := bind_some hb_2
    obtain ⟨cs6, F6, -, g6, hb6, hs6, r6⟩ := ph1_1.el (idx_some hx8).2.2
    obtain ⟨v11, G11, v12, G12, rfl, rfl, h11, h12⟩ := r6
    refine qq (q_indexAddr Sl_25 rfl rfl ph1_1 hx8) rfl <| WQ.yes rfl rfl <| qq (q_fieldAddr Fld_43_1 rfl) rfl <| WQ.yes rfl rfl <| qq (q_load1 T1_41 rfl (fun w1 hw => (g6.of_eq 1 1 rfl rfl : rg _ _ _ [v12]).rangeAt hw.fro)) rfl <| WQ.yes rfl rfl ?_
    obtain ⟨x9, hx9, hb_2⟩ := bind_some hb_2
    refine qp (p_call Fun_112 rfl (fun w1 hw => m_s_l11Same_ok hw.fro N x7.Neg x8.Neg h10 h12 hx9)) rfl <| WQ.yes rfl rfl <| qq (q_not rfl) rfl <| WQ.q (q_pick0 rfl rfl) rfl rfl rfl ?_
    cases hb_2
    exact WQ.keep (by exact ⟨rfl, rfl, rfl, rfl, trivial⟩) K
  refine WQ.nil ?_
  refine WT.cond rfl (fun c7 => ?_) (fun c7 => ?_)
  ·replace h := ite_t h c7
   refine sr <| lq (q_assign rfl) rfl <| WL.nil ?_
   refine WT.ret Tryz.func55 (resOk.one rfl) (fun w1 hw => ?_)
   subst hb0
   cases h
   exact post_of_St hw
  replace h := ite_f h c7
  refine WT.skip <| WT.inBlock <| WT.region <| lq (q_move rfl) rfl <| lq (q_add rfl rfl) rfl <| lq (q_assign rfl) rfl <| WL.nil ?_
  refine WT.inLoop (WT.mono (l' := [(2, .pointer (some ⟨b_1, 0, none⟩)), (3, .pointer (some ⟨b_2, 0, none⟩)), (6, .int .i64 (IntKind.i64.wrap (s2 + 1)))]) (S' := St w0 Φ [(b_2, .cells #[pv1_0, pv1_1] 27 (0, 0)), (b_1, .cells #[pv0_0, pv0_1] 27 (0, 0))] []) ⟨rfl, rfl, rfl, trivial⟩ (fun w1 hw => (hw.sel (js := []) rfl).selO (js := [0, 0]) rfl) ?_)
  exact ih2 (IntKind.i64.wrap (s2 + 1)) h
 replace h := ite_f h c5
 refine WT.exit rfl <| sr <| lq (q_assign rfl) rfl <| WL.nil ?_
 refine WT.ret Tryz.func55 (resOk.one rfl) (fun w1 hw => ?_)
 subst hb0
 cases h
 exact post_of_St hw
theorem m_s_NetOk_ok {Φ : Hp} {w : World} (hΦ : In Φ w) (N : Nat) (p0 : TNet) (p1 : TDef) {pv0_0 : Value} {pG0_0 : List Nat} {pv0_1 : Value} {pG0_1 : List Nat} {pv1_0 : Value} {pG1_0 : List Nat} (ph0_0 : RSl RTAlpha 4 Φ pG0_0 pv0_0 p0.Alphas) (ph0_1 : RSl RTChain 2 Φ pG0_1 pv0_1 p0.Chains) (ph1_0 : RSl RTRule 5 Φ pG1_0 pv1_0 p1.Rules) {r : Bool} (h : m_s_NetOk N p0 p1 = some r) :
  Calls Tryz.prog 14 [.agg [pv0_0, pv0_1].toArray, .agg [.string p1.Name, pv1_0].toArray].toArray w (Post (.bool r) w) := by
 refine enter Tryz.func14 rfl Tryz.ntmps14 rfl (St.start0 hΦ) ?_
 have pa0_0 : Old ⟨w, [], Φ⟩ pG0_0 := Old.mk hΦ ph0_0.kn (Dj.empty _)
 have pa0_1 : Old ⟨w, [], Φ⟩ pG0_1 := Old.mk hΦ ph0_1.kn (Dj.empty _)
 unfold m_s_NetOk at h
 refine WT.seq <| WT.region ?_
 refine ln (n_box (C := #[pv0_0, pv0_1]) rfl rfl) rfl (fun b_1 => ?_)
 refine ln (n_box (C := #[.string p1.Name, pv1_0]) rfl rfl) rfl (fun b_2 => ?_)
 refine lq (q_assign rfl) rfl <| WL.nil <| WT.seq <| WT.mix (Kn Φ [] [(b_2, .cells #[.string p1.Name, pv1_0] 30 (0, 0)), (b_1, .cells #[pv0_0, pv0_1] 27 (0, 0))]) (fun _ => true) mixed (fun _ h => h.drew) <| mq 0 rfl (by kernel_rfl) (fun w1 hw => Kn.of (fun k hk _ _ => by simp at hk) (ai2 0 1 rfl rfl) hw) (q_loadN Tn_30 rfl (fun w1 hw => hw.rgO (i := 0) rfl 0 2 [.string p1.Name, pv1_0] rfl) rfl) rfl ?_
 obtain ⟨x1, hx1, h⟩ := bind_some h
 refine WM.one 1 (by kernel_rfl) (mp rfl (fun _ w1 hw => Kn.of (fun k hk _ _ => by simp at hk) (ai2 0 1 rfl rfl) hw) (p_call Fun_31 rfl (fun w1 hw => m_s_DefOk_ok hw.fro N p1 ph1_0 hx1)) rfl ?_)
 refine mq 2 rfl (by kernel_rfl) (fun w1 hw => Kn.of (fun k hk _ _ => by simp at hk) (ai2 0 1 rfl rfl) hw) (q_move rfl) rfl ?_
 refine WM.split (d := 7) rfl (fun c1 => ?_) (fun c1 => ?_)
 ·replace h := ite_t h c1
  refine mqG 3 [6, 7, 8] rfl (by kernel_rfl) (fun w1 hw => Kn.of (fun k hk _ _ => by simp at hk) (ai2 0 1 rfl rfl) hw) (q_loadN Tn_27 rfl (fun w1 hw => hw.rgO (i := 1) rfl 0 2 [pv0_0, pv0_1] rfl) rfl) rfl <| mqG 4 [5, 6, 7, 8] rfl (by kernel_rfl) (fun w1 hw => Kn.of (fun k hk _ _ => by simp at hk) (ai2 0 1 rfl rfl) hw) (q_loadN Tn_30 rfl (fun w1 hw => hw.rgO (i := 0) rfl 0 2 [.string p1.Name, pv1_0] rfl) rfl) rfl ?_
  obtain ⟨x2, hx2, h⟩ := bind_some h
  refine WM.one 5 (by kernel_rfl) (mcG rfl (fun _ v Φx D w1 hq hw => Kn.of (fun k hk _ _ => by simp at hk) (ai2 0 1 rfl rfl) hw) (k_call (js := []) (R := []) Fun_46 rfl rfl (fun w1 hw ap hl => m_s_l12Net_ok hw.fro N p1 ph1_0  hx2)) rfl (fun v1 Φ_1 F1 q1 => ?_))
  obtain ⟨ap1, fr1, v2, D1, v3, D2, X1, rfl, rfl, h1, i1, h2⟩ := q1
  replace ph0_0 := ph0_0.frame RTAlpha.lasts fr1 (ap1.o pa0_0)
  replace ph0_1 := ph0_1.frame RTChain.lasts fr1 (ap1.o pa0_1)
  obtain ⟨x4, hx3, h⟩ := bind_some h
  refine WM.one 6 (by kernel_rfl) (mpG rfl (fun _ w1 hw => Kn.of (fun k hk _ _ => by simp at hk) (ai2 0 1 rfl rfl) hw) (p_call Fun_55 rfl (fun w1 hw => m_s_l12Same_ok hw.fro N p0 x2 ph0_0 ph0_1 h1.rsl (h2.rslG OTChain.gives) hx3)) rfl ?_)
  refine mq 7 rfl (by kernel_rfl) (fun w1 hw => Kn.of (fun k hk _ _ => by simp at hk) (ai2 0 1 rfl rfl) hw) (q_pick1 rfl rfl) rfl <| mq 8 rfl (by kernel_rfl) (fun w1 hw => Kn.of (fun k hk _ _ => by simp at hk) (ai2 0 1 rfl rfl) hw) (q_assign rfl) rfl <| WM.nil (by kernel_rfl) ?_
  refine WT.ret Tryz.func14 (resOk.one rfl) (fun w1 hw => ?_)
  cases h
  exact post_of_St hw
 replace h := ite_f h c1
 refine mno 3 [6, 7, 8] rfl (by kernel_rfl) (fun w1 hw => Kn.of (fun k hk _ _ => by simp at hk) (ai2 0 1 rfl rfl) hw) rfl (.inl rfl) rfl rfl <| mno 4 [5, 6, 7, 8] rfl (by kernel_rfl) (fun w1 hw => Kn.of (fun k hk _ _ => by simp at hk) (ai2 0 1 rfl rfl) hw) rfl (.inl rfl) rfl rfl ?_
 refine mno 5 [6, 7, 8] rfl (by kernel_rfl) (fun w1 hw => Kn.of (fun k hk _ _ => by simp at hk) (ai2 0 1 rfl rfl) hw) rfl (.inl rfl) rfl rfl <| mno 6 [7, 8] rfl (by kernel_rfl) (fun w1 hw => Kn.of (fun k hk _ _ => by simp at hk) (ai2 0 1 rfl rfl) hw) rfl (.inl rfl) rfl rfl ?_
 refine mq 7 rfl (by kernel_rfl) (fun w1 hw => Kn.of (fun k hk _ _ => by simp at hk) (ai2 0 1 rfl rfl) hw) (q_pick0 rfl rfl) rfl <| mq 8 rfl (by kernel_rfl) (fun w1 hw => Kn.of (fun k hk _ _ => by simp at hk) (ai2 0 1 rfl rfl) hw) (q_assign rfl) rfl <| WM.nil (by kernel_rfl) ?_
 refine WT.ret Tryz.func14 (resOk.one rfl) (fun w1 hw => ?_)
 cases h
 exact post_of_St hw
theorem m_l_FnNetsBent_ok {Φ : Hp} {w : World} (hΦ : In Φ w) (N : Nat) (p0 : (List Int)) {pv0 : Value} {pG0 : List Nat} (ph0 : RSl (RI .u8) 1 Φ pG0 pv0 p0) {r : Bool} (h : m_l_FnNetsBent N p0 = some r) :
  Calls Tryz.prog 3 [pv0].toArray w (Post (.bool r) w) := by
 refine enter Tryz.func3 rfl Tryz.ntmps3 rfl (St.start0 hΦ) ?_
 generalize hb0 : (⟨w, [], Φ⟩ : Base) = w0
 unfold m_l_FnNetsBent at h
 refine sr <| lq (q_assign rfl) rfl <| WL.nil <| WT.seq <| sr <| lq (q_move rfl) rfl ?_
 obtain ⟨x1, hx1, h⟩ := bind_some h
 refine lp (p_call Fun_10 rfl (fun w1 hw => m_l_big_ok hw.fro N p0 ph0 hx1)) rfl <| WL.nil ?_
 refine WT.cond rfl (fun c1 => ?_) (fun c1 => ?_)
 ·replace h := ite_t h c1
  refine sr <| lq (q_assign rfl) rfl <| WL.nil ?_
  refine WT.ret Tryz.func3 (resOk.one rfl) (fun w1 hw => ?_)
  subst hb0
  cases h
  exact post_of_St hw
 replace h := ite_f h c1
 refine WT.skip <| sr <| lq (q_move rfl) rfl ?_
 obtain ⟨x2, hx2, h⟩ := bind_some h
 refine lc (k_call (js := []) (R := []) Fun_11 rfl rfl (fun w1 hw ap hl => m_s_DrawNetOk_ok hw.fro N p0 ph0  hx2)) rfl (fun v1 Φ_1 F1 q1 => ?_)
 obtain ⟨ap1, fr1, v2, D1, v3, D2, v4, D3, X1, rfl, rfl, h1, i1, h2, h3, i2⟩ := q1
 refine lq (q_move rfl) rfl <| lq (q_extract rfl rfl) rfl <| lq (q_extract rfl rfl) rfl ?_
 refine ln (n_alloc (C := #[.slice none 0 0, .slice none 0 0]) Zr_27 rfl) rfl (fun b_1 => ?_)
 refine ln (n_alloc (C := #[.string eS, .slice none 0 0]) Zr_30 rfl) rfl (fun b_2 => ?_)
 refine ls (s_store (i := 1) (vs := [v2, v3]) (C' := [v2, v3]) (O' := [(b_2, .cells #[.string eS, .slice none 0 0] 30 (0, 0)), (b_1, .cells #[v2, v3] 27 (0, 0))]) Sz_27 rfl rfl rfl rfl rfl rfl ⟨h1.one, h2.one, trivial⟩ rfl rfl) rfl <| ls (s_store (i := 0) (vs := [.string x2.2.Name, v4]) (C' := [.string x2.2.Name, v4]) (O' := [(b_2, .cells #[.string x2.2.Name, v4] 30 (0, 0)), (b_1, .cells #[v2, v3] 27 (0, 0))]) Sz_30 rfl rfl rfl rfl rfl rfl ⟨rfl, h3.one, trivial⟩ rfl rfl) rfl ?_
 refine WL.nil <| sr <| lq (q_loadN Tn_27 rfl (fun w1 hw => hw.rgO (i := 1) rfl 0 2 [v2, v3] rfl) rfl) rfl ?_
 obtain ⟨x4, hx3, h⟩ := bind_some h
 refine lc (k_call (js := []) (R := [ob v2, ob v3, D2, ob v4, X1]) Fun_12 rfl rfl (fun w1 hw ap hl => m_i_MemNew_ok hw.fro N x2.1 h1.rsl (h2.rslG OTChain.gives)  hx3)) rfl (fun v5 Φ_2 F2 q2 => ?_)
 obtain ⟨ap2, fr2, v6, D4, v7, D5, rfl, rfl, h4, h5⟩ := q2
 replace h1 := h1.frame RTAlpha.lasts fr2 (ap2.r (i := 0) rfl) (Dj.sub (ap2.r (i := 4) rfl) i1)
 replace h2 := h2.frame OTChain.lasts fr2 (ap2.r (i := 1) rfl) (ap2.r (i := 2) rfl)
 replace h3 := h3.frame RTRule.lasts fr2 (ap2.r (i := 3) rfl) (Dj.sub (ap2.r (i := 4) rfl) i2)
 refine ln (n_alloc (C := #[.slice none 0 0, .slice none 0 0]) Zr_36 rfl) rfl (fun b_3 => ?_)
 refine ls (s_store (i := 0) (vs := [v6, v7]) (C' := [v6, v7]) (O' := [(b_3, .cells #[v6, v7] 36 (0, 0)), (b_2, .cells #[.string x2.2.Name, v4] 30 (0, 0)), (b_1, .cells #[v2, v3] 27 (0, 0))]) Sz_36 rfl rfl rfl rfl rfl rfl ⟨h4.one, h5.one, trivial⟩ rfl rfl) rfl <| WL.nil <| WT.seq <| sr <| lq (q_fieldAddr Fld_36_0 rfl) rfl <| lq (q_load1 T1_33 rfl (fun w1 hw => hw.rgO (i := 0) rfl 0 1 [v6] rfl)) rfl <| lq (q_lenR Sl_33 rfl rfl (h4.rslG OTIds.gives)) rfl ?_
 refine lq (q_fieldAddr Fld_27_0 rfl) rfl <| lq (q_load1 T1_24 rfl (fun w1 hw => hw.rgO (i := 2) rfl 0 1 [v2] rfl)) rfl <| lq (q_lenR Sl_24 rfl rfl h1.rsl) rfl <| lq (q_neq rfl rfl) rfl <| lq (q_move rfl) rfl ?_
 obtain ⟨b1, hb_1, h⟩ := bind_some h
 refine WL.cutN 8 [(31, .bool b1), (3, .pointer (some ⟨b_1, 0, none⟩)), (4, .pointer (some ⟨b_2, 0, none⟩)), (5, .pointer (some ⟨b_3, 0, none⟩))] ?_ (fun K => ?_)
 rotate_left
 ·refine WL.split (d := 23) rfl (fun c2 => ?_) (fun c2 => ?_)
  ·replace hb_1 := ite_t hb_1 c2
   refine WL.no rfl rfl rfl rfl <| WL.no rfl rfl rfl rfl <| WL.no rfl rfl rfl rfl <| WL.no rfl rfl rfl rfl <| WL.no rfl rfl rfl rfl <| WL.no rfl rfl rfl rfl <| WL.no rfl rfl rfl rfl <| WL.q (q_pick1 rfl rfl) rfl rfl rfl ?_
   cases hb_1
   exact WL.keep (by exact ⟨rfl, rfl, rfl, rfl, trivial⟩) K
  ·replace hb_1 := ite_f hb_1 c2
   refine WL.yes rfl rfl <| lq (q_fieldAddr Fld_36_1 rfl) rfl <| WL.yes rfl rfl <| lq (q_load1 T1_34 rfl (fun w1 hw => hw.rgO (i := 0) rfl 1 1 [v7] rfl)) rfl <| WL.yes rfl rfl <| lq (q_lenR Sl_34 rfl rfl (h5.rslG OTRow.gives)) rfl <| WL.yes rfl rfl <| lq (q_fieldAddr Fld_27_1 rfl) rfl <| WL.yes rfl rfl <| lq (q_load1 T1_25 rfl (fun w1 hw => hw.rgO (i := 2) rfl 1 1 [v3] rfl)) rfl <| WL.yes rfl rfl <| lq (q_lenR Sl_25 rfl rfl (h2.rslG OTChain.gives)) rfl ?_
   refine WL.yes rfl rfl <| lq (q_neq rfl rfl) rfl <| WL.q (q_pick0 rfl rfl) rfl rfl rfl ?_
   cases hb_1
   exact WL.keep (by exact ⟨rfl, rfl, rfl, rfl, trivial⟩) K
 refine WL.nil ?_
 refine WT.cond rfl (fun c3 => ?_) (fun c3 => ?_)
 ·replace h := ite_t h c3
  refine sr <| lq (q_assign rfl) rfl <| WL.nil ?_
  refine WT.ret Tryz.func3 (resOk.one rfl) (fun w1 hw => ?_)
  subst hb0
  cases h
  exact post_of_St hw
 replace h := ite_f h c3
 refine WT.skip <| WT.seq <| sr <| lq (q_assign rfl) rfl <| WL.nil <| WT.block <| WT.loop <| WT.mono (l' := [(3, .pointer (some ⟨b_1, 0, none⟩)), (4, .pointer (some ⟨b_2, 0, none⟩)), (5, .pointer (some ⟨b_3, 0, none⟩)), (6, .int .i64 0)]) (S' := St w0 Φ_2 [(b_3, .cells #[v6, v7] 36 (0, 0)), (b_2, .cells #[.string x2.2.Name, v4] 30 (0, 0)), (b_1, .cells #[v2, v3] 27 (0, 0))] [ob v6, D4, ob v7, D5, ob v2, ob v3, D2, ob v4, X1]) ⟨rfl, rfl, rfl, rfl, trivial⟩ (fun w1 hw => (hw.sel (js := [0, 0, 0, 0, 0, 0, 0, 0, 0]) rfl).selO (js := [0, 0, 0]) rfl) ?_
 refine loop_ind (σ := Int) (fun s => [(3, .pointer (some ⟨b_1, 0, none⟩)), (4, .pointer (some ⟨b_2, 0, none⟩)), (5, .pointer (some ⟨b_3, 0, none⟩)), (6, .int .i64 s)]) (fun s => St w0 Φ_2 [(b_3, .cells #[v6, v7] 36 (0, 0)), (b_2, .cells #[.string x2.2.Name, v4] 30 (0, 0)), (b_1, .cells #[v2, v3] 27 (0, 0))] [ob v6, D4, ob v7, D5, ob v2, ob v3, D2, ob v4, X1]) (fun m s => m_l_FnNetsBent_l1 N x2 x4 m s = some r) (fun s hm => none_ne (show (none : Option (Bool)) = some r from hm)) (fun n1 ih1 s hm => ?_) N (0) h
 revert hm; revert s; intro s1 hm
 have h : m_l_FnNetsBent_l1 N x2 x4 (n1 + 1) s1 = some r := hm
 show WT _ _ [(3, .pointer (some ⟨b_1, 0, none⟩)), (4, .pointer (some ⟨b_2, 0, none⟩)), (5, .pointer (some ⟨b_3, 0, none⟩)), (6, .int .i64 s1)] (St w0 Φ_2 [(b_3, .cells #[v6, v7] 36 (0, 0)), (b_2, .cells #[.string x2.2.Name, v4] 30 (0, 0)), (b_1, .cells #[v2, v3] 27 (0, 0))] [ob v6, D4, ob v7, D5, ob v2, ob v3, D2, ob v4, X1])
 unfold m_l_FnNetsBent_l1 at h
 refine WT.seq <| sr <| lq (q_move rfl) rfl <| lq (q_fieldAddr Fld_36_1 rfl) rfl <| lq (q_load1 T1_34 rfl (fun w1 hw => hw.rgO (i := 0) rfl 1 1 [v7] rfl)) rfl <| lq (q_lenR Sl_34 rfl rfl (h5.rslG OTRow.gives)) rfl <| lq (q_lss rfl rfl) rfl <| WL.nil ?_
 refine WT.cond rfl (fun c4 => ?_) (fun c4 => ?_)
 ·replace h := ite_t h c4
  refine WT.skip <| WT.seq <| WT.block <| WT.seq <| WT.draw mixed (by kernel_rfl) (fun _ h => h.drew) <| qq (q_fieldAddr Fld_36_1 rfl) rfl <| qq (q_load1 T1_34 rfl (fun w1 hw => hw.rgO (i := 0) rfl 1 1 [v7] rfl)) rfl <| qq (q_move rfl) rfl ?_
  obtain ⟨x5, hx4, h⟩ := bind_some h
  obtain ⟨cs1, F3, -, g1, hb1, hs1, r1⟩ := h5.elS (idx_some hx4).2.2
  obtain ⟨v8, D6, rfl, rfl, h6⟩ := r1
  have h7 := h6.rslG OTLevel.gives
  refine qq (q_indexAddr Sl_34 rfl rfl h5.rsl hx4) rfl <| qq (q_fieldAddr Fld_40_0 rfl) rfl <| qq (q_load1 T1_38 rfl (fun w1 hw => (g1.of_eq 0 1 rfl rfl : rg _ _ _ [v8]).rangeAt hw.fro)) rfl <| qq (q_lenR Sl_38 rfl rfl h7) rfl <| qq (q_fieldAddr Fld_27_1 rfl) rfl <| qq (q_load1 T1_25 rfl (fun w1 hw => hw.rgO (i := 2) rfl 1 1 [v3] rfl)) rfl <| qq (q_move rfl) rfl ?_
  obtain ⟨x6, hx5, h⟩ := bind_some h
  obtain ⟨cs2, F4, -, g2, hb2, hs2, r2⟩ := h2.elS (idx_some hx5).2.2
  obtain ⟨v9, v10, rfl, rfl, h8, h9⟩ := r2
  have h10 := h8.rsl
  have h11 := h9.rsl
  refine qq (q_indexAddr Sl_25 rfl rfl h2.rsl hx5) rfl <| qq (q_fieldAddr Fld_43_0 rfl) rfl <| qq (q_load1 T1_41 rfl (fun w1 hw => (g2.of_eq 0 1 rfl rfl : rg _ _ _ [v9]).rangeAt hw.fro)) rfl <| qq (q_lenR Sl_41 rfl rfl h10) rfl <| qq (q_neq rfl rfl) rfl <| WQ.nil ?_
  refine WT.cond rfl (fun c5 => ?_) (fun c5 => ?_)
  ·replace h := ite_t h c5
   refine sr <| lq (q_assign rfl) rfl <| WL.nil ?_
   refine WT.ret Tryz.func3 (resOk.one rfl) (fun w1 hw => ?_)
   subst hb0
   cases h
   exact post_of_St hw
  replace h := ite_f h c5
  refine WT.skip <| WT.inBlock <| WT.region <| lq (q_move rfl) rfl <| lq (q_add rfl rfl) rfl <| lq (q_assign rfl) rfl <| WL.nil ?_
  refine WT.inLoop (WT.mono (l' := [(3, .pointer (some ⟨b_1, 0, none⟩)), (4, .pointer (some ⟨b_2, 0, none⟩)), (5, .pointer (some ⟨b_3, 0, none⟩)), (6, .int .i64 (IntKind.i64.wrap (s1 + 1)))]) (S' := St w0 Φ_2 [(b_3, .cells #[v6, v7] 36 (0, 0)), (b_2, .cells #[.string x2.2.Name, v4] 30 (0, 0)), (b_1, .cells #[v2, v3] 27 (0, 0))] [ob v6, D4, ob v7, D5, ob v2, ob v3, D2, ob v4, X1]) ⟨rfl, rfl, rfl, rfl, trivial⟩ (fun w1 hw => (hw.sel (js := [0, 0, 0, 0, 0, 0, 0, 0, 0]) rfl).selO (js := [0, 0, 0]) rfl) ?_)
  exact ih1 (IntKind.i64.wrap (s1 + 1)) h
 replace h := ite_f h c4
 refine WT.exit rfl <| WT.seq <| WT.draw mixed (by kernel_rfl) (fun _ h => h.drew) <| qq (q_loadN Tn_27 rfl (fun w1 hw => hw.rgO (i := 2) rfl 0 2 [v2, v3] rfl) rfl) rfl <| qq (q_loadN Tn_30 rfl (fun w1 hw => hw.rgO (i := 1) rfl 0 2 [.string x2.2.Name, v4] rfl) rfl) rfl ?_
 obtain ⟨x7, hx6, h⟩ := bind_some h
 refine qp (p_call Fun_13 rfl (fun w1 hw => m_i_NetOk_ok hw.fro N x2.1 x2.2 h1.rsl (h2.rslG OTChain.gives) h3.rsl hx6)) rfl <| qq (q_loadN Tn_27 rfl (fun w1 hw => hw.rgO (i := 2) rfl 0 2 [v2, v3] rfl) rfl) rfl <| qq (q_loadN Tn_30 rfl (fun w1 hw => hw.rgO (i := 1) rfl 0 2 [.string x2.2.Name, v4] rfl) rfl) rfl ?_
 obtain ⟨x8, hx7, h⟩ := bind_some h
 refine qp (p_call Fun_14 rfl (fun w1 hw => m_s_NetOk_ok hw.fro N x2.1 x2.2 h1.rsl (h2.rslG OTChain.gives) h3.rsl hx7)) rfl <| qq (q_beq Bo_4 rfl rfl) rfl <| qq (q_assign rfl) rfl <| WQ.nil ?_
 refine WT.ret Tryz.func3 (resOk.one rfl) (fun w1 hw => ?_)
 subst hb0
 cases h
 exact post_of_St hw
end Go.Proofs.YtjangilipfjcmaaGreat
