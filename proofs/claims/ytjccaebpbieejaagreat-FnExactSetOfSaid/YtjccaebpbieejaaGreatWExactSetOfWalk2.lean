/- Printed by a program of ours: each Go function computes its Lean function. -/
import Derived.Test.YtjccaebpbieejaaGreatProg
import Derived.Test.YtjccaebpbieejaaGreatWExactSetOfWalk1
namespace Go.Proofs.YtjccaebpbieejaaGreat
open Eng Tryz
open Go.RowKit (Below)
set_option linter.unusedVariables false
set_option linter.unusedSimpArgs false

set_option maxRecDepth 100000
set_option maxHeartbeats 1000000
variable {Ψ Φ : Hp} {pv0 pv1_0 pv1_1 pv0_0 pv2_0 pv0_1 pv0_2 pv2 : Value} {pD0 pG1_0 pG1_1 pG0_0 pG2_0 pG0 pG0_1 pG0_2 pG2 : List Nat} (N : Nat)
theorem m_s_l14Put_ok (w0 : Base Ψ Φ [ob pv0].flatten) (p0 : (List TMatch)) (p1 : TMatch) (ph0 : OSl RTMatch 84 3 Φ pD0 pv0 p0) (ph1_0 : RSl (RI .i64) 1 Ψ pG1_0 pv1_0 p1.Ids) (ph1_1 : RSl RTBind 4 Ψ pG1_1 pv1_1 p1.Binds) (pd0 : Dj pD0 [ob pv0].flatten) {r : (List TMatch)} (h : m_s_l14Put N p0 p1 = some r) :
  Calls prog 28 [pv0, .agg [iV p1.Rule, pv1_0, pv1_1].toArray].toArray w0.w (PostG Φ w0.w [ob pv0].flatten (fun Φ' Fs v => ∃ (sr_0_0 : Value) (Dr_0_0 : List Nat), v = sr_0_0 ∧ Fs = [ob sr_0_0] ∧ OSl RTMatch 84 3 Φ' Dr_0_0 sr_0_0 r ∧ (∀ k ∈ Dr_0_0, k ∈ (pD0 ++ (pG1_0 ++ pG1_1))))) := by
 refine eL func28 rfl ntmps28 rfl (L := [ob pv0]) w0 (fun hF => ?_)
 have pa0 := Old.mk w0 ph0.kn pd0
 unfold m_s_l14Put at h
 refine sr <| lbx rfl fun b_1 => arr 6 [3] rfl <| lu0 ph1_0 fun h1 => lu0 ph1_1 fun h2 => ?_
 have rc1 : RC RTMatch 3 Φ ([pG1_0 ++ (pG1_1)] : List (List Nat)) [iV p1.Rule, pv1_0, pv1_1] ([p1] : List TMatch) := RC.cons (c := [iV p1.Rule, pv1_0, pv1_1]) (cells := []) ⟨pv1_0, pG1_0, pv1_1, pG1_1, rfl, rfl, h1, h2⟩ rfl (RC.nil _ _ _)
 refine le' (e_lit (vs := [(0, .agg [iV p1.Rule, pv1_0, pv1_1].toArray)]) (C := #[iV p1.Rule, pv1_0, pv1_1]) RTMatch.lasts Sl_35 Zr_84 rfl rfl rfl rfl (fill_made MC_84_1 (fill_cons (C' := [iV p1.Rule, pv1_0, pv1_1]) rfl rfl rfl rfl rfl (fill_nil))) rfl rc1 rfl (RC.kn RTMatch.knows rc1)) rfl ?_
 rintro v1 Φ_1 D1 ⟨fr1, h3⟩
 replace h3 : OSl RTMatch 84 3 Φ_1 (pG1_0 ++ (pG1_1)) v1 ([p1] : List TMatch) := by simpa [List.append_assoc] using h3
 replace ph0 := ph0.f0 fr1
 obtain ⟨x1, hx1, h⟩ := bs h
 refine le' (e_appO RTMatch.lasts RTMatch.one Sl_35 Ei_84 rfl rfl rfl rfl rfl (js := [1]) (Rr := [ob v1]) rfl ph0 h3 (fun ap => (ap.o pa0)) (fun ap => (Dj.sub (Dj.app (ap.o ph1_0.old) (ap.o ph1_1.old)) (fun k hk => (by simpa [List.append_assoc] using hk : k ∈ (pG1_0 ++ pG1_1))))) hx1) rfl ?_
 rintro v2 Φ_2 D2 ⟨⟨ap1, fr2⟩, h4⟩
 refine arr 5 [] rfl <| lno h4 rfl <| art 5 [] rfl ?_
 refine lin (σ := Hp × (List TMatch) × List Nat × Int) (fun s => [(3, pQ b_1), (5, v2), (6, iV s.2.2.2)]) (fun s => St w0 s.1 [(b_1, .cells #[iV p1.Rule, pv1_0, pv1_1] 84 (0, 0))] [ob v2]) (fun m s => m_s_l14Put_l1 N p1 m s.2.1 s.2.2.2 = some r ∧ (OSl RTMatch 84 3 s.1 s.2.2.1 v2 s.2.1) ∧ (∀ k ∈ s.2.2.1, k ∈ (pD0 ++ (pG1_0 ++ pG1_1)))) (Φ_2, x1, (pD0 ++ (pG1_0 ++ (pG1_1))), wz ((x1.length : Int) - 1)) N ⟨h, h4, (fun k hk => ((List.mem_append.1 hk).elim (fun h => (List.mem_append.2 (.inl h))) (fun h => ((List.mem_append.1 ((fun k hk => (by simpa [List.append_assoc] using hk : k ∈ (pG1_0 ++ pG1_1))) k h)).elim (fun h => (List.mem_append.2 (.inr (List.mem_append.2 (.inl h))))) (fun h => (List.mem_append.2 (.inr (List.mem_append.2 (.inr h)))))))))⟩ (sx [0] [0]) (fun n1 ih1 s hm => ?_)
 obtain ⟨Φ_3, s1, D3, s2⟩ := s
 obtain ⟨h, k1, i1⟩ := hm
 dsimp only at h k1 i1 ⊢
 unfold m_s_l14Put_l1 at h
 refine sq <| sq <| WT.draw mixed (by kernel_rfl) (fun _ h => h.drew) <| aqq 3 [] rfl ?_
 obtain ⟨b1, hb_1, h⟩ := bs h
 refine WQ.cutN 8 [(24, .bool b1), (3, pQ b_1), (5, v2), (6, iV s2)] ?_ (fun K => ?_)
 rotate_left
 ·refine WQ.split (d := 16) rfl (fun c1 => ?_) (fun c1 => ?_)
  ·replace hb_1 := ite_t hb_1 c1
   refine aqq 4 [3] rfl <| WQ.yes rfl rfl ?_
   obtain ⟨x2, hx2, hb_1⟩ := bs hb_1
   obtain ⟨cs1, F1, -, g1, hb1, hs1, r1⟩ := k1.elS (idx_some hx2).2.2
   obtain ⟨v3, G1, v4, G2, rfl, rfl, h5, h6⟩ := r1
   refine qq (q_indexAddr Sl_35 rfl rfl k1.rsl hx2) rfl <| WQ.yes rfl rfl <| qq (q_loadN Tn_84 rfl (fun w1 hw => (g1.of_eq 0 3 rfl rfl : rg _ _ _ [iV x2.Rule, v3, v4]).rangeAt hw.fro) rfl) rfl <| WQ.yes rfl rfl ?_
   obtain ⟨x3, hx3, hb_1⟩ := bs hb_1
   refine qp (p_call Fun_59 rfl (fun w1 hw => m_s_LessMatch_ok N (ba hw.fro) p1 x2 (ph1_0.y hw.up) (ph1_1.y hw.up) h5 h6 hx3)) rfl <| WQ.q (q_pick1 rfl rfl) rfl rfl rfl ?_
   cases hb_1
   exact kq K
  ·replace hb_1 := ite_f hb_1 c1
   refine aqq 8 [] rfl ?_
   cases hb_1
   exact kq K
 refine WQ.nil ?_
 refine ch h rfl ?_ ?_ <;> intro h
 ·refine atr 9 [] rfl ?_
  obtain ⟨x4, hx4, h⟩ := bs h
  obtain ⟨cs2, F2, -, g2, hb2, hs2, r2⟩ := k1.elS (idx_some hx4).2.2
  obtain ⟨v5, G3, v6, G4, rfl, rfl, h7, h8⟩ := r2
  refine lio k1 hx4 rfl <| lgx 0 3 g2 rfl ?_
  obtain ⟨x5, hx5, h⟩ := bs h
  obtain ⟨cs3, F3, -, g3, hb3, hs3, r3⟩ := k1.elS (idx_some hx5).2.2
  obtain ⟨v7, G5, v8, G6, rfl, rfl, h9, h10⟩ := r3
  refine lio k1 hx5 rfl ?_
  have r4 : RTMatch Φ_3 (G3 ++ (G4)) [iV x4.Rule, v5, v6] x4 := ⟨v5, G3, v6, G4, rfl, rfl, h7, h8⟩
  refine lu (u_setO (js := [0]) (Rr := []) (vs := [iV x4.Rule, v5, v6]) (x' := x4) RTMatch.lasts Sz_84 rfl rfl rfl rfl ⟨rfl, h7.one, h8.one, trivial⟩ rfl k1 (idx_lt hx5) r4 (RTMatch.knows _ _ _ _ r4) (fun ap => (Dj.sub (Dj.app (ap.o pa0) (Dj.app (ap.o ph1_0.old) (ap.o ph1_1.old))) i1)) (fun ap => by simpa using (Dj.app (Dj.sub (Dj.app (ap.o pa0) (Dj.app (ap.o ph1_0.old) (ap.o ph1_1.old))) (fun k h => i1 k (hs2 k (List.mem_append.2 (.inl h))))) (Dj.sub (Dj.app (ap.o pa0) (Dj.app (ap.o ph1_0.old) (ap.o ph1_1.old))) (fun k h => i1 k (hs2 k (List.mem_append.2 (.inr h)))))))) rfl ?_
  rintro Φ_4 D4 ⟨⟨ap2, fr3⟩, sp1, h11⟩
  refine art 7 [] rfl ?_
  exact lb [0] [0] (ih1 (_, _, _, _) ⟨h, h11, (fun k hk => ((List.mem_append.1 ((fun k hk => (by simpa [List.append_assoc] using sp1.mem hk : k ∈ (D3 ++ (G3 ++ G4)))) k hk)).elim (fun h => ((List.mem_append.1 (i1 k h)).elim (fun h => (List.mem_append.2 (.inl h))) (fun h => ((List.mem_append.1 h).elim (fun h => (List.mem_append.2 (.inr (List.mem_append.2 (.inl h))))) (fun h => (List.mem_append.2 (.inr (List.mem_append.2 (.inr h))))))))) (fun h => ((List.mem_append.1 h).elim (fun h => ((List.mem_append.1 ((fun k h => i1 k (hs2 k (List.mem_append.2 (.inl h)))) k h)).elim (fun h => (List.mem_append.2 (.inl h))) (fun h => ((List.mem_append.1 h).elim (fun h => (List.mem_append.2 (.inr (List.mem_append.2 (.inl h))))) (fun h => (List.mem_append.2 (.inr (List.mem_append.2 (.inr h))))))))) (fun h => ((List.mem_append.1 ((fun k h => i1 k (hs2 k (List.mem_append.2 (.inr h)))) k h)).elim (fun h => (List.mem_append.2 (.inl h))) (fun h => ((List.mem_append.1 h).elim (fun h => (List.mem_append.2 (.inr (List.mem_append.2 (.inl h))))) (fun h => (List.mem_append.2 (.inr (List.mem_append.2 (.inr h)))))))))))))⟩)
 refine atr 6 [3] rfl ?_
 obtain ⟨x6, hx6, h⟩ := bs h
 obtain ⟨cs4, F4, -, g4, hb4, hs4, r5⟩ := k1.elS (idx_some hx6).2.2
 obtain ⟨v9, G7, v10, G8, rfl, rfl, h12, h13⟩ := r5
 refine lio k1 hx6 rfl <| lu0 ph1_0 fun h15 => lu0 ph1_1 fun h16 => ?_
 have r6 : RTMatch Φ_3 (pG1_0 ++ (pG1_1)) [iV p1.Rule, pv1_0, pv1_1] p1 := ⟨pv1_0, pG1_0, pv1_1, pG1_1, rfl, rfl, h15, h16⟩
 refine lu (u_setO (js := [0]) (Rr := []) (vs := [iV p1.Rule, pv1_0, pv1_1]) (x' := p1) RTMatch.lasts Sz_84 rfl rfl rfl rfl ⟨rfl, h15.one, h16.one, trivial⟩ rfl k1 (idx_lt hx6) r6 (RTMatch.knows _ _ _ _ r6) (fun ap => (Dj.sub (Dj.app (ap.o pa0) (Dj.app (ap.o ph1_0.old) (ap.o ph1_1.old))) i1)) (fun ap => by simpa using (Dj.app (ap.o ph1_0.old) (ap.o ph1_1.old)))) rfl ?_
 rintro Φ_5 D5 ⟨⟨ap3, fr4⟩, sp2, h14⟩
 refine art 6 [] rfl ?_
 exact rtg [0] hF (resOk.one rfl) rfl (by cases h; exact fun w1 hw => ⟨v2, D5, rfl, rfl, h14, (fun k hk => ((List.mem_append.1 ((fun k hk => (by simpa [List.append_assoc] using sp2.mem hk : k ∈ (D3 ++ (pG1_0 ++ pG1_1)))) k hk)).elim (fun h => ((List.mem_append.1 (i1 k h)).elim (fun h => (List.mem_append.2 (.inl h))) (fun h => ((List.mem_append.1 h).elim (fun h => (List.mem_append.2 (.inr (List.mem_append.2 (.inl h))))) (fun h => (List.mem_append.2 (.inr (List.mem_append.2 (.inr h))))))))) (fun h => ((List.mem_append.1 h).elim (fun h => (List.mem_append.2 (.inr (List.mem_append.2 (.inl h))))) (fun h => (List.mem_append.2 (.inr (List.mem_append.2 (.inr h)))))))))⟩)
theorem m_s_SetOf_ok (w0 : Base Ψ Φ []) (p0 : TDef) (p1 : TMem) (p2 : TStore) (ph0_0 : RSl RTRule 5 Ψ pG0_0 pv0_0 p0.Rules) (ph1_0 : RSl RTIds 1 Ψ pG1_0 pv1_0 p1.Alphas) (ph1_1 : RSl RTRow 1 Ψ pG1_1 pv1_1 p1.Rules) (ph2_0 : RSl RTItem 3 Ψ pG2_0 pv2_0 p2.Items) {r : (List TMatch)} (h : m_s_SetOf N p0 p1 p2 = some r) :
  Calls prog 7 [.agg [.string p0.Name, pv0_0].toArray, .agg [pv1_0, pv1_1].toArray, .agg [pv2_0, iV p2.Next].toArray].toArray w0.w (PostG Φ w0.w [] (fun Φ' Fs v => ∃ (sr_0_0 : Value) (Dr_0_0 : List Nat) (X : List Nat), v = sr_0_0 ∧ Fs = [ob sr_0_0, X] ∧ OSl RTMatch 84 3 Φ' Dr_0_0 sr_0_0 r ∧ (∀ k ∈ Dr_0_0, k ∈ X))) := by
 refine eN func7 rfl ntmps7 rfl w0 fun hF => ?_
 unfold m_s_SetOf at h
 refine sr <| lbx rfl fun b_1 => lbx rfl fun b_2 => lbx rfl fun b_3 => arr 4 [] rfl ?_
 have rc1 : RC OTMatch 3 Φ ([] : List (List Nat)) [] ([] : List TMatch) := RC.nil _ _ _
 refine le' (e_lit (vs := []) (C := #[]) OTMatch.lasts Sl_35 Zr_84 rfl rfl rfl rfl (fill_made MC_84_0 (fill_nil)) rfl rc1 rfl (by simpa using Kw.nil)) rfl ?_
 rintro v1 Φ_1 D1 ⟨fr1, h1⟩
 replace h1 : OSl OTMatch 84 3 Φ_1 [] v1 ([] : List TMatch) := by simpa [List.append_assoc] using h1
 refine WL.conv (S' := St w0 Φ_1 [(b_3, .cells #[pv2_0, iV p2.Next] 48 (0, 0)), (b_2, .cells #[pv1_0, pv1_1] 44 (0, 0)), (b_1, .cells #[.string p0.Name, pv0_0] 39 (0, 0))] [[], ob v1]) (fun w1 hw => hw.addNil) <| art 8 [] rfl <| wt0 ?_
 replace h1 := h1.gives OTMatch.gives
 refine lin (σ := Hp × List Nat × (List TMatch) × Value × List Nat × Int) (fun s => [(3, pQ b_1), (4, pQ b_2), (5, pQ b_3), (7, s.2.2.2.1), (8, iV s.2.2.2.2.2)]) (fun s => St w0 s.1 [(b_3, .cells #[pv2_0, iV p2.Next] 48 (0, 0)), (b_2, .cells #[pv1_0, pv1_1] 44 (0, 0)), (b_1, .cells #[.string p0.Name, pv0_0] 39 (0, 0))] [s.2.1, ob s.2.2.2.1]) (fun m s => m_s_SetOf_l1 N p0 p1 p2 m s.2.2.1 s.2.2.2.2.2 = some r ∧ (OSl RTMatch 84 3 s.1 s.2.2.2.2.1 s.2.2.2.1 s.2.2.1) ∧ (∀ k ∈ s.2.2.2.2.1, k ∈ s.2.1)) (Φ_1, [], ([] : List TMatch), v1, [], 0) N ⟨h, h1, (by simp)⟩ (sx [0, 1] [0, 0, 0]) (fun n1 ih1 s hm => ?_)
 obtain ⟨Φ_2, X1, s1, u1, D2, s2⟩ := s
 obtain ⟨h, k1, i1⟩ := hm
 dsimp only at h k1 i1 ⊢
 unfold m_s_SetOf_l1 at h
 refine atr 6 [1, 64] rfl <| lnr ph0_0 rfl <| arr 2 [] rfl ?_
 obtain ⟨b1, hb_1, h⟩ := bs h
 refine WL.cutN 6 [(27, .bool b1), (3, pQ b_1), (4, pQ b_2), (5, pQ b_3), (7, u1), (8, iV s2)] ?_ (fun K => ?_)
 rotate_left
 ·refine sp 21 hb_1 rfl (fun hb_1 => ?_) fun hb_1 => ?_
  ·refine arr 3 [1, 32] rfl <| ly rfl rfl <| lnr ph1_1 rfl <| arr 2 [] rfl ?_
   cases hb_1
   exact ku K
  ·refine arr 6 [] rfl ?_
   cases hb_1
   exact ku K
 refine en ?_
 refine ch h rfl ?_ ?_ <;> intro h
 ·refine atr 8 [1, 32] rfl ?_
  obtain ⟨x1, hx1, h⟩ := bs h
  obtain ⟨cs1, F1, -, g1, hb1, hs1, r1⟩ := ph1_1.el (idx_some hx1).2.2
  obtain ⟨v2, G1, rfl, hq1, h2⟩ := r1
  obtain rfl := hq1.symm
  refine lia ph1_1 hx1 rfl <| lf Fld_65_0 rfl rfl rfl <| lhx 0 0 g1 rfl <| arr 6 [] rfl <| lnr h2 rfl <| la rfl <| en ?_
  refine ch h rfl ?_ ?_ <;> intro h
  ·refine att 6 [] rfl ?_
   exact lb [0, 0] [0, 0, 0] (ih1 (_, _, _, _, _, _) ⟨h, k1, (fun k hk => (i1 k hk))⟩)
  refine atr 5 [] rfl <| lnr h2 rfl <| la rfl ?_
  obtain ⟨x2, hx2, h⟩ := bs h
  obtain ⟨cs2, F2, -, g2, hb2, hs2, r2⟩ := h2.el (idx_some hx2).2.2
  obtain ⟨v3, G2, rfl, hq2, h3⟩ := r2
  obtain rfl := hq2.symm
  refine lia h2 hx2 rfl <| lf Fld_68_0 rfl rfl rfl <| lhx 0 0 g2 rfl <| arr 4 [] rfl ?_
  have rc2 : RC OTMatch 3 Φ_2 ([] : List (List Nat)) [] ([] : List TMatch) := RC.nil _ _ _
  refine le' (e_lit (vs := []) (C := #[]) OTMatch.lasts Sl_35 Zr_84 rfl rfl rfl rfl (fill_made MC_84_0 (fill_nil)) rfl rc2 rfl (by simpa using Kw.nil)) rfl ?_
  rintro v4 Φ_3 D3 ⟨fr2, h4⟩
  replace h4 : OSl OTMatch 84 3 Φ_3 [] v4 ([] : List TMatch) := by simpa [List.append_assoc] using h4
  replace k1 := k1.f0 fr2
  refine WL.conv (S' := St w0 Φ_3 [(b_3, .cells #[pv2_0, iV p2.Next] 48 (0, 0)), (b_2, .cells #[pv1_0, pv1_1] 44 (0, 0)), (b_1, .cells #[.string p0.Name, pv0_0] 39 (0, 0))] [[], ob v4, X1, ob u1]) (fun w1 hw => hw.addNil) <| art 8 [] rfl <| wt0 ?_
  replace h4 := h4.gives OTMatch.gives
  refine lin (σ := Hp × List Nat × (List TMatch) × Value × List Nat × Int) (fun s => [(3, pQ b_1), (4, pQ b_2), (5, pQ b_3), (7, u1), (8, iV s2), (10, v3), (11, s.2.2.2.1), (12, iV s.2.2.2.2.2)]) (fun s => St w0 s.1 [(b_3, .cells #[pv2_0, iV p2.Next] 48 (0, 0)), (b_2, .cells #[pv1_0, pv1_1] 44 (0, 0)), (b_1, .cells #[.string p0.Name, pv0_0] 39 (0, 0))] [s.2.1, ob s.2.2.2.1, X1, ob u1]) (fun m s => m_s_SetOf_l2 N p0 p2 s1 s2 (m_s_SetOf_l1 N p0 p1 p2 n1) x2 m s.2.2.1 s.2.2.2.2.2 = some r ∧ (OSl RTMatch 84 3 s.1 D2 u1 s1) ∧ (OSl RTMatch 84 3 s.1 s.2.2.2.2.1 s.2.2.2.1 s.2.2.1) ∧ (∀ k ∈ s.2.2.2.2.1, k ∈ s.2.1)) (Φ_3, [], ([] : List TMatch), v4, [], 0) N ⟨h, k1, h4, (by simp)⟩ (sx [0, 1, 1, 1] [0, 0, 0]) (fun n2 ih2 s hm => ?_)
  obtain ⟨Φ_4, X2, s3, u2, D4, s4⟩ := s
  obtain ⟨h, k1, k2, i2⟩ := hm
  dsimp only at h k1 k2 i2 ⊢
  unfold m_s_SetOf_l2 at h
  refine atr 5 [] rfl <| lnr h3 rfl <| la rfl <| en ?_
  refine ch h rfl ?_ ?_ <;> intro h
  ·refine att 4 [] rfl <| wm [0, 1, 2] [] rfl <| amm 3 [0, 1, 1, 64, 2] [0, 1, 2] rfl rfl ?_
   obtain ⟨x3, hx3, h⟩ := bs h
   obtain ⟨cs3, F3, -, g3, hb3, hs3, r3⟩ := ph0_0.el (idx_some hx3).2.2
   obtain ⟨v5, G3, v6, G4, v7, G5, rfl, rfl, h5, h6, h7⟩ := r3
   refine mq 3 rfl (by kernel_rfl) (kN [0, 1, 2]) (q_indexAddr Sl_37 rfl rfl ph0_0 hx3) rfl <| mq 4 rfl (by kernel_rfl) (kN [0, 1, 2]) (q_loadN Tn_76 rfl (fun w1 hw => (g3.of_eq 0 5 rfl rfl : rg _ _ _ [.string x3.Name, iV x3.Sal, v5, v6, v7]).rangeAt hw.1) rfl) rfl <| amm 3 [5, 2, 6, 7] [0, 1, 2] rfl rfl ?_
   obtain ⟨x4, hx4, h⟩ := bs h
   obtain ⟨cs4, F4, -, g4, hb4, hs4, r4⟩ := h3.el (idx_some hx4).2.2
   obtain ⟨v8, G6, v9, G7, rfl, rfl, h8, h9⟩ := r4
   refine mq 8 rfl (by kernel_rfl) (kN [0, 1, 2]) (q_indexAddr Sl_66 rfl rfl h3 hx4) rfl <| amm 1 [9, 0] [0, 1, 2] rfl rfl <| mq 10 rfl (by kernel_rfl) (kN [0, 1, 2]) (q_load1 T1_77 rfl (fun w1 hw => (g4.of_eq 0 1 rfl rfl : rg _ _ _ [v8]).rangeAt hw.1)) rfl ?_
   obtain ⟨x5, hx5, h⟩ := bs h
   refine WM.one 11 (by kernel_rfl) (mc rfl (fun _ v Φx D w1 hq hw => Kn.of Kf.nil (ai3 0 1 2 rfl rfl rfl) hw) (k_call (js := []) (R := [X2, ob u2, X1, ob u1]) Fun_25 rfl rfl (fun w1 hw ap hl => m_s_BindsFor_ok N (ba hw.fro) x3 p2 x4.Ids (h5.y hw.up) (h6.y hw.up) (h7.y hw.up) (ph2_0.y hw.up) (h8.y hw.up)  hx5)) rfl ?_)
   rintro v10 Φ_5 F5 ⟨ap1, fr3, v11, rfl, rfl, h10⟩
   replace k1 := k1.fr fr3 (ap1.q 3 rfl) (Dj.sub (ap1.q 2 rfl) i1)
   replace k2 := k2.fr fr3 (ap1.q 1 rfl) (Dj.sub (ap1.q 0 rfl) i2)
   refine amm 5 [12, 13, 14, 15, 16] [0, 1, 2] rfl rfl <| WM.nil (by kernel_rfl) <| atr 4 [] rfl ?_
   obtain ⟨b2, hb_2, h⟩ := bs h
   refine WL.cutN 6 [(75, .bool b2), (3, pQ b_1), (4, pQ b_2), (5, pQ b_3), (7, u1), (8, iV s2), (10, v3), (11, u2), (12, iV s4), (13, v11)] ?_ (fun K => ?_)
   rotate_left
   ·refine sp 69 hb_2 rfl (fun hb_2 => ?_) fun hb_2 => ?_
    ·refine arr 2 [] rfl <| ly rfl rfl ?_
     obtain ⟨x6, hx6, hb_2⟩ := bs hb_2
     obtain ⟨cs5, F6, -, g5, hb5, hs5, r5⟩ := h3.el (idx_some hx6).2.2
     obtain ⟨v12, G8, v13, G9, rfl, rfl, h11, h12⟩ := r5
     refine lia h3 hx6 rfl <| ly rfl rfl <| lhx 0 2 g5 rfl <| ly rfl rfl <| qd hb_2 (m_s_l14Free_ok N · x6 h11 h12 ·) rfl rfl rfl fun x7 hb_2 => la rfl ?_
     cases hb_2
     exact ku K
    ·refine arr 6 [] rfl ?_
     cases hb_2
     exact ku K
   refine la rfl ?_
   obtain ⟨b3, hb_3, h⟩ := bs h
   refine WL.cutN 9 [(85, .bool b3), (3, pQ b_1), (4, pQ b_2), (5, pQ b_3), (7, u1), (8, iV s2), (10, v3), (11, u2), (12, iV s4), (13, v11)] ?_ (fun K => ?_)
   rotate_left
   ·refine sp 76 hb_3 rfl (fun hb_3 => ?_) fun hb_3 => ?_
    ·refine arr 3 [1, 64] rfl <| ly rfl rfl ?_
     obtain ⟨x8, hx8, hb_3⟩ := bs hb_3
     obtain ⟨cs6, F7, -, g6, hb6, hs6, r6⟩ := ph0_0.el (idx_some hx8).2.2
     obtain ⟨v14, G10, v15, G11, v16, G12, rfl, rfl, h13, h14, h15⟩ := r6
     refine lia ph0_0 hx8 rfl <| ly rfl rfl <| lf Fld_76_3 rfl rfl rfl <| ly rfl rfl <| lhx 3 0 g6 rfl <| ly rfl rfl <| la rfl <| ly rfl rfl <| qz hb_3 (fun b z q => m_s_HoldAll_ok N b x8.Conds x5.1 (h14.y z) h10.rsl q) rfl rfl rfl fun x9 hb_3 => la rfl ?_
     cases hb_3
     exact ku K
    ·refine arr 9 [] rfl ?_
     cases hb_3
     exact ku K
   refine en ?_
   refine ch h rfl ?_ ?_ <;> intro h
   ·refine atr 3 [] rfl <| le' (e_lit0 (R := RI .i64) RI.lasts Sl_77 Zr_3 rfl rfl) rfl ?_
    rintro v17 Φ_6 D5 ⟨fr4, h16⟩
    replace k1 := k1.f0 fr4
    replace k2 := k2.f0 fr4
    replace h10 := h10.f0 fr4
    refine arr 2 [] rfl ?_
    obtain ⟨x10, hx10, h⟩ := bs h
    obtain ⟨cs7, F8, -, g7, hb7, hs7, r7⟩ := h3.el (idx_some hx10).2.2
    obtain ⟨v18, G13, v19, G14, rfl, rfl, h17, h18⟩ := r7
    refine lia h3 hx10 rfl <| lf Fld_79_0 rfl rfl rfl <| lhx 0 0 g7 rfl <| lu0 h17 fun h19 => ?_
    obtain ⟨x11, hx11, h⟩ := bs h
    refine le' (e_appF RI.lasts RI.one RI.flat Sl_77 Ei_3 rfl rfl rfl rfl rfl (js := [0]) (Rr := [ob v11, X2, ob u2, X1, ob u1]) rfl h16 h19 hx11) rfl ?_
    rintro v20 Φ_7 D6 ⟨⟨ap2, fr5⟩, h20⟩
    replace k1 := k1.fr fr5 (ap2.q 4 rfl) (Dj.sub (ap2.q 3 rfl) i1)
    replace k2 := k2.fr fr5 (ap2.q 2 rfl) (Dj.sub (ap2.q 1 rfl) i2)
    replace h10 := h10.fr fr5 (ap2.q 0 rfl) dN
    refine la rfl <| lq (q_build (vs := [(0, iV s2), (1, v20), (2, v11)]) (C := #[iV s2, v20, v11]) Pl_84 Zr_84 rfl (fill_cons (C' := [iV s2, .slice none 0 0, .slice none 0 0]) rfl rfl rfl rfl rfl (fill_cons (C' := [iV s2, v20, .slice none 0 0]) rfl (one_cells h20.one) rfl rfl rfl (fill_cons (C' := [iV s2, v20, v11]) rfl (one_cells h10.one) rfl rfl rfl (fill_nil))))) rfl ?_
    refine kcb [3] h rfl rfl rfl rfl (fun b ap z q => m_s_l14Put_ok N b s3 (⟨s2, x11, x5.1⟩ : TMatch) k2 (h20.rsl.x (Dj.app (ap.q 0 rfl) dN)) (h10.rsl.x (Dj.app (ap.q 1 rfl) dN)) (Dj.sub (ap.q 2 rfl) i2) q) ?_
    rintro x12 h v21 Φ_8 F9 ⟨ap3, fr6, v22, D7, rfl, rfl, h21, i3⟩
    replace k1 := k1.fr fr6 (ap3.q 4 rfl) (Dj.sub (ap3.q 3 rfl) i1)
    refine art 8 [] rfl <| wtL [(X2 ++ (ob v20 ++ (ob v11))), ob v21, X1, ob u1] (smg [3, 1, 1] rfl (SP.eq (by simp [List.append_assoc]))) ?_
    exact lb [0, 0, 0, 0] [0, 0, 0] (ih2 (_, _, _, _, _, _) ⟨h, k1, h21, (fun k hk => ((List.mem_append.1 (i3 k hk)).elim (fun h => ((fun k hk => (List.mem_append.2 (.inl hk))) k (i2 k h))) (fun h => ((List.mem_append.1 h).elim (fun h => ((fun k hk => (List.mem_append.2 (.inr (List.mem_append.2 (.inl hk))))) k (apnil k h))) (fun h => ((fun k hk => (List.mem_append.2 (.inr (List.mem_append.2 (.inr hk))))) k (apnil k h)))))))⟩)
   refine att 7 [] rfl ?_
   exact lb [1, 1, 1, 1] [0, 0, 0] (ih2 (_, _, _, _, _, _) ⟨h, k1, k2, (fun k hk => (i2 k hk))⟩)
  refine atr 4 [] rfl ?_
  obtain ⟨x13, hx13, h⟩ := bs h
  refine le' (e_appO RTMatch.lasts RTMatch.one Sl_35 Ei_84 rfl rfl rfl rfl rfl (js := [3]) (Rr := [X2, ob u2, X1]) rfl k1 k2 (fun ap => (Dj.sub (ap.q 2 rfl) i1)) (fun ap => (Dj.sub (ap.q 0 rfl) i2)) hx13) rfl ?_
  rintro v23 Φ_9 D8 ⟨⟨ap4, fr7⟩, h22⟩
  refine art 8 [] rfl <| wtL [(X1 ++ (X2)), ob v23, ob u2] (smg [3, 1] rfl (SP.eq (by simp [List.append_assoc]))) ?_
  exact lb [0, 0] [0, 0, 0] (ih1 (_, _, _, _, _, _) ⟨h, h22, (fun k hk => ((List.mem_append.1 hk).elim (fun h => ((fun k hk => (List.mem_append.2 (.inl hk))) k (i1 k h))) (fun h => ((fun k hk => (List.mem_append.2 (.inr hk))) k (i2 k h)))))⟩)
 refine att 6 [] rfl ?_
 refine WT.ret hF (resOk.one rfl) (fun w1 hw => ?_)
 cases h
 replace hw := hw.merge (js := [0]) (F := [X1].flatten) rfl (SP.eq (by simp))
 refine postG_of_St (js := [1, 0]) hw rfl ⟨u1, D2, [X1].flatten, rfl, rfl, k1, (fun k hk => (List.mem_flatten.2 ⟨X1, by simp, (i1 k hk)⟩))⟩
theorem m_l_toVal_ok  (w0 : Base Ψ Φ []) (p0 : TVal)  {r : TVal} (h : m_l_toVal N p0 = some r) :
  CB w0 prog 145 [.agg [iV p0.K, iV p0.N, .string p0.S].toArray] (.agg [iV r.K, iV r.N, .string r.S].toArray) := by
 refine eN func145 rfl ntmps145 rfl w0 fun hF => ?_
 unfold m_l_toVal at h
 refine sr <| lbx rfl fun b_1 => lnz Zr_133 rfl fun b_2 => en <| sr <| lnz Zr_133 rfl fun b_3 => arr 6 [0, 64, 0] rfl <| so1 0 Sz_3 rfl rfl ?_
 refine arr 6 [1, 64, 1] rfl <| so1 0 Sz_3 rfl rfl ?_
 refine arr 6 [2, 64, 2] rfl <| so1 0 Sz_9 rfl rfl ?_
 refine arr 4 [3] rfl <| soN 1 Sz_133 rfl ⟨rfl, rfl, rfl, trivial⟩ rfl ?_
 refine en ?_
 refine WT.ret hF (resOk.one (rv_cell Tn_133 rfl (fun w1 hw => hw.rgO (i := 1) rfl 0 3 [iV p0.K, iV p0.N, .string p0.S] rfl) rfl)) (fun w1 hw => ?_)
 cases h
 exact post_of_St hw
theorem m_l_toArg_ok  (w0 : Base Ψ Φ []) (p0 : TArg)  {r : TArg} (h : m_l_toArg N p0 = some r) :
  CB w0 prog 142 [.agg [iV p0.K, .string p0.S, iV p0.V.K, iV p0.V.N, .string p0.V.S].toArray] (.agg [iV r.K, .string r.S, iV r.V.K, iV r.V.N, .string r.V.S].toArray) := by
 refine eN func142 rfl ntmps142 rfl w0 fun hF => ?_
 unfold m_l_toArg at h
 refine sr <| lbx rfl fun b_1 => lnz Zr_135 rfl fun b_2 => en <| sr <| lnz Zr_135 rfl fun b_3 => arr 6 [0, 64, 0] rfl <| so1 0 Sz_3 rfl rfl ?_
 refine arr 6 [1, 64, 1] rfl <| so1 0 Sz_9 rfl rfl ?_
 refine arr 5 [2, 67] rfl <| qc h (m_l_toVal_ok N · p0.V ·) rfl rfl rfl fun x1 h => lf Fld_135_2 rfl rfl rfl <| soN 0 Sz_133 rfl ⟨rfl, rfl, rfl, trivial⟩ rfl ?_
 refine arr 4 [5] rfl <| soN 1 Sz_135 rfl ⟨rfl, rfl, rfl, rfl, rfl, trivial⟩ rfl ?_
 refine en ?_
 refine WT.ret hF (resOk.one (rv_cell Tn_135 rfl (fun w1 hw => hw.rgO (i := 1) rfl 0 5 [iV p0.K, .string p0.S, iV x1.K, iV x1.N, .string x1.S] rfl) rfl)) (fun w1 hw => ?_)
 cases h
 exact post_of_St hw
theorem m_l_toArgS_ok (w0 : Base Ψ Φ []) (p0 : (List TArg)) (ph0 : RSl RTArg 5 Ψ pG0 pv0 p0) {r : (List TArg)} (h : m_l_toArgS N p0 = some r) :
  Calls prog 141 [pv0].toArray w0.w (PostG Φ w0.w [] (fun Φ' Fs v => ∃ (sr_0_0 : Value), v = sr_0_0 ∧ Fs = [ob sr_0_0] ∧ OSl RTArg 135 5 Φ' [] sr_0_0 r)) := by
 refine eN func141 rfl ntmps141 rfl w0 fun hF => ?_
 unfold m_l_toArgS at h
 refine atr 7 [] rfl <| lnr ph0 rfl ?_
 obtain ⟨x1, hx1, h⟩ := bs h
 refine le' (e_make (R := RTArg) Sl_122 Zr_135 By_135 rfl rfl rfl (fun _ => ⟨rfl, rfl⟩) rfl rfl (Int.le_refl _) hx1 (mk_le hx1)) rfl ?_
 rintro v1 Φ_1 D1 ⟨fr1, h1⟩
 refine art 8 [] rfl ?_
 refine lin (σ := Hp × (List TArg) × Int) (fun s => [(0, pv0), (3, v1), (4, iV s.2.2)]) (fun s => St w0 s.1 [] [ob v1]) (fun m s => m_l_toArgS_l1 N p0 m s.2.1 s.2.2 = some r ∧ (OSl RTArg 135 5 s.1 [] v1 s.2.1)) (Φ_1, x1, 0) N ⟨h, h1⟩ (sx [0] []) (fun n1 ih1 s hm => ?_)
 obtain ⟨Φ_2, s1, s2⟩ := s
 obtain ⟨h, k1⟩ := hm
 dsimp only at h k1 ⊢
 unfold m_l_toArgS_l1 at h
 refine atr 5 [] rfl <| lnr ph0 rfl <| la rfl <| en ?_
 refine ch h rfl ?_ ?_ <;> intro h
 ·refine atr 8 [] rfl ?_
  obtain ⟨x2, hx2, h⟩ := bs h
  obtain ⟨cs1, F1, -, g1, hb1, hs1, r1⟩ := ph0.el (idx_some hx2).2.2
  obtain ⟨rfl, -⟩ := r1
  refine lia ph0 hx2 rfl <| lhx 0 5 g1 rfl <| qc h (m_l_toArg_ok N · x2 ·) rfl rfl rfl fun x3 h => ?_
  obtain ⟨x4, hx4, h⟩ := bs h
  obtain ⟨cs2, F2, -, g2, hb2, hs2, r2⟩ := k1.elS (idx_some hx4).2.2
  obtain ⟨rfl, -⟩ := r2
  refine lio k1 hx4 rfl <| lu (u_setF (js := [0]) (Rr := []) (vs := [iV x3.K, .string x3.S, iV x3.V.K, iV x3.V.N, .string x3.V.S]) (x' := x3) RTArg.lasts RTArg.flat Sz_135 rfl rfl rfl rfl ⟨rfl, rfl, rfl, rfl, rfl, trivial⟩ rfl k1 (idx_lt hx4) ⟨rfl, rfl⟩) rfl ?_
  rintro Φ_3 D2 ⟨⟨ap1, fr2⟩, h2⟩
  refine art 7 [] rfl ?_
  exact lb [0] [] (ih1 (_, _, _) ⟨h, h2⟩)
 refine att 6 [] rfl ?_
 exact rtg [0] hF (resOk.one rfl) rfl (by cases h; exact fun w1 hw => ⟨v1, rfl, rfl, k1⟩)
theorem m_l_toPat_ok (w0 : Base Ψ Φ []) (p0 : TPat) (ph0_0 : RSl RTArg 5 Ψ pG0_0 pv0_0 p0.Args) {r : TPat} (h : m_l_toPat N p0 = some r) :
  Calls prog 120 [.agg [.string p0.Kind, pv0_0, .bool p0.Not].toArray].toArray w0.w (PostG Φ w0.w [] (fun Φ' Fs v => ∃ (sr_0_0 : Value), v = .agg [.string r.Kind, sr_0_0, .bool r.Not].toArray ∧ Fs = [ob sr_0_0] ∧ OSl RTArg 135 5 Φ' [] sr_0_0 r.Args)) := by
 refine eN func120 rfl ntmps120 rfl w0 fun hF => ?_
 unfold m_l_toPat at h
 refine sr <| lbx rfl fun b_1 => lnz Zr_124 rfl fun b_2 => en <| sr <| lnz Zr_124 rfl fun b_3 => arr 6 [0, 64, 0] rfl <| so1 0 Sz_9 rfl rfl ?_
 refine arr 5 [1, 64] rfl <| kab h rfl rfl rfl (fun b z q => m_l_toArgS_ok N b p0.Args (ph0_0.y z) q) ?_
 rintro x1 h v1 Φ_1 F1 ⟨ap1, fr1, v2, rfl, rfl, h1⟩
 refine lf Fld_124_1 rfl rfl rfl <| so1 0 Sz_122 rfl h1.one ?_
 refine arr 6 [2, 64, 2] rfl <| so1 0 Sz_4 rfl rfl ?_
 refine arr 4 [3] rfl <| soN 1 Sz_124 rfl ⟨rfl, h1.one, rfl, trivial⟩ rfl ?_
 refine en ?_
 exact rtg [0] hF (resOk.one (rv_cell Tn_124 rfl (fun w1 hw => hw.rgO (i := 1) rfl 0 3 [.string p0.Kind, v1, .bool p0.Not] rfl) rfl)) rfl (by cases h; exact fun w1 hw => ⟨v1, rfl, rfl, h1⟩)
theorem m_l_toPatS_ok (w0 : Base Ψ Φ []) (p0 : (List TPat)) (ph0 : RSl RTPat 3 Ψ pG0 pv0 p0) {r : (List TPat)} (h : m_l_toPatS N p0 = some r) :
  Calls prog 93 [pv0].toArray w0.w (PostG Φ w0.w [] (fun Φ' Fs v => ∃ (sr_0_0 : Value) (Dr_0_0 : List Nat), v = sr_0_0 ∧ Fs = [ob sr_0_0, Dr_0_0] ∧ OSl OTPat 124 3 Φ' Dr_0_0 sr_0_0 r)) := by
 refine eN func93 rfl ntmps93 rfl w0 fun hF => ?_
 unfold m_l_toPatS at h
 refine atr 7 [] rfl <| lnr ph0 rfl ?_
 obtain ⟨x1, hx1, h⟩ := bs h
 refine le' (e_make (R := OTPat) Sl_72 Zr_124 By_124 rfl rfl rfl (fun _ => ⟨.slice none 0 0, rfl, rfl, OSl.nil _ _ _ _⟩) rfl rfl (Int.le_refl _) hx1 (mk_le hx1)) rfl ?_
 rintro v1 Φ_1 D1 ⟨fr1, h1⟩
 refine wl0 <| art 8 [] rfl ?_
 refine lin (σ := Hp × (List TPat) × List Nat × Int) (fun s => [(0, pv0), (3, v1), (4, iV s.2.2.2)]) (fun s => St w0 s.1 [] [s.2.2.1, ob v1]) (fun m s => m_l_toPatS_l1 N p0 m s.2.1 s.2.2.2 = some r ∧ (OSl OTPat 124 3 s.1 s.2.2.1 v1 s.2.1)) (Φ_1, x1, [], 0) N ⟨h, h1⟩ (sx [0, 0] []) (fun n1 ih1 s hm => ?_)
 obtain ⟨Φ_2, s1, D2, s2⟩ := s
 obtain ⟨h, k1⟩ := hm
 dsimp only at h k1 ⊢
 unfold m_l_toPatS_l1 at h
 refine atr 5 [] rfl <| lnr ph0 rfl <| la rfl <| en ?_
 refine ch h rfl ?_ ?_ <;> intro h
 ·refine atr 8 [] rfl ?_
  obtain ⟨x2, hx2, h⟩ := bs h
  obtain ⟨cs1, F1, -, g1, hb1, hs1, r1⟩ := ph0.el (idx_some hx2).2.2
  obtain ⟨v2, G1, rfl, hq1, h2⟩ := r1
  obtain rfl := hq1.symm
  refine lia ph0 hx2 rfl <| lhx 0 3 g1 rfl <| kab h rfl rfl rfl (fun b z q => m_l_toPat_ok N b x2 (h2.y z) q) ?_
  rintro x3 h v3 Φ_3 F2 ⟨ap1, fr2, v4, rfl, rfl, h3⟩
  replace k1 := k1.fr fr2 (ap1.q 1 rfl) (ap1.q 0 rfl)
  obtain ⟨x4, hx4, h⟩ := bs h
  obtain ⟨cs2, F3, -, g2, hb2, hs2, r2⟩ := k1.elS (idx_some hx4).2.2
  obtain ⟨v5, rfl, rfl, h4⟩ := r2
  have h5 := h4.rsl
  refine lio k1 hx4 rfl ?_
  have r3 : OTPat Φ_3 ((ob v4 ++ [])) [.string x3.Kind, v4, .bool x3.Not] x3 := ⟨v4, rfl, rfl, h3⟩
  refine lu (u_setO (js := [2]) (Rr := [ob v4, D2]) (vs := [.string x3.Kind, v4, .bool x3.Not]) (x' := x3) OTPat.lasts Sz_124 rfl rfl rfl rfl ⟨rfl, h3.one, rfl, trivial⟩ rfl k1 (idx_lt hx4) r3 (OTPat.knows _ _ _ _ r3) (fun ap => ap.q 1 rfl) (fun ap => by simpa [ob_nil] using (ap.q 0 rfl))) rfl ?_
  rintro Φ_4 D3 ⟨⟨ap2, fr3⟩, sp1, h6⟩
  refine wlL [D3, ob v1] (smg [2, 1] rfl (by simpa [List.append_assoc, ob_nil] using sp1)) <| art 7 [] rfl ?_
  exact lb [0, 0] [] (ih1 (_, _, _, _) ⟨h, h6⟩)
 refine att 6 [] rfl ?_
 exact rtg [1, 0] hF (resOk.one rfl) rfl (by cases h; exact fun w1 hw => ⟨v1, D2, rfl, rfl, k1⟩)
theorem m_l_toCond_ok  (w0 : Base Ψ Φ []) (p0 : TCond)  {r : TCond} (h : m_l_toCond N p0 = some r) :
  CB w0 prog 121 [.agg [iV p0.Op, iV p0.L.K, .string p0.L.S, iV p0.L.V.K, iV p0.L.V.N, .string p0.L.V.S, iV p0.R.K, .string p0.R.S, iV p0.R.V.K, iV p0.R.V.N, .string p0.R.V.S].toArray] (.agg [iV r.Op, iV r.L.K, .string r.L.S, iV r.L.V.K, iV r.L.V.N, .string r.L.V.S, iV r.R.K, .string r.R.S, iV r.R.V.K, iV r.R.V.N, .string r.R.V.S].toArray) := by
 refine eN func121 rfl ntmps121 rfl w0 fun hF => ?_
 unfold m_l_toCond at h
 refine sr <| lbx rfl fun b_1 => lnz Zr_137 rfl fun b_2 => en <| sr <| lnz Zr_137 rfl fun b_3 => arr 6 [0, 64, 0] rfl <| so1 0 Sz_3 rfl rfl ?_
 refine arr 5 [1, 69] rfl <| qc h (m_l_toArg_ok N · p0.L ·) rfl rfl rfl fun x1 h => lf Fld_137_1 rfl rfl rfl <| soN 0 Sz_135 rfl ⟨rfl, rfl, rfl, rfl, rfl, trivial⟩ rfl ?_
 refine arr 5 [6, 69] rfl <| qc h (m_l_toArg_ok N · p0.R ·) rfl rfl rfl fun x2 h => lf Fld_137_2 rfl rfl rfl <| soN 0 Sz_135 rfl ⟨rfl, rfl, rfl, rfl, rfl, trivial⟩ rfl ?_
 refine arr 4 [11] rfl <| soN 1 Sz_137 rfl ⟨rfl, rfl, rfl, rfl, rfl, rfl, rfl, rfl, rfl, rfl, rfl, trivial⟩ rfl ?_
 refine en ?_
 refine WT.ret hF (resOk.one (rv_cell Tn_137 rfl (fun w1 hw => hw.rgO (i := 1) rfl 0 11 [iV p0.Op, iV x1.K, .string x1.S, iV x1.V.K, iV x1.V.N, .string x1.V.S, iV x2.K, .string x2.S, iV x2.V.K, iV x2.V.N, .string x2.V.S] rfl) rfl)) (fun w1 hw => ?_)
 cases h
 exact post_of_St hw
theorem m_l_toCondS_ok (w0 : Base Ψ Φ []) (p0 : (List TCond)) (ph0 : RSl RTCond 11 Ψ pG0 pv0 p0) {r : (List TCond)} (h : m_l_toCondS N p0 = some r) :
  Calls prog 94 [pv0].toArray w0.w (PostG Φ w0.w [] (fun Φ' Fs v => ∃ (sr_0_0 : Value), v = sr_0_0 ∧ Fs = [ob sr_0_0] ∧ OSl RTCond 137 11 Φ' [] sr_0_0 r)) := by
 refine eN func94 rfl ntmps94 rfl w0 fun hF => ?_
 unfold m_l_toCondS at h
 refine atr 7 [] rfl <| lnr ph0 rfl ?_
 obtain ⟨x1, hx1, h⟩ := bs h
 refine le' (e_make (R := RTCond) Sl_73 Zr_137 By_137 rfl rfl rfl (fun _ => ⟨rfl, rfl⟩) rfl rfl (Int.le_refl _) hx1 (mk_le hx1)) rfl ?_
 rintro v1 Φ_1 D1 ⟨fr1, h1⟩
 refine art 8 [] rfl ?_
 refine lin (σ := Hp × (List TCond) × Int) (fun s => [(0, pv0), (3, v1), (4, iV s.2.2)]) (fun s => St w0 s.1 [] [ob v1]) (fun m s => m_l_toCondS_l1 N p0 m s.2.1 s.2.2 = some r ∧ (OSl RTCond 137 11 s.1 [] v1 s.2.1)) (Φ_1, x1, 0) N ⟨h, h1⟩ (sx [0] []) (fun n1 ih1 s hm => ?_)
 obtain ⟨Φ_2, s1, s2⟩ := s
 obtain ⟨h, k1⟩ := hm
 dsimp only at h k1 ⊢
 unfold m_l_toCondS_l1 at h
 refine atr 5 [] rfl <| lnr ph0 rfl <| la rfl <| en ?_
 refine ch h rfl ?_ ?_ <;> intro h
 ·refine atr 8 [] rfl ?_
  obtain ⟨x2, hx2, h⟩ := bs h
  obtain ⟨cs1, F1, -, g1, hb1, hs1, r1⟩ := ph0.el (idx_some hx2).2.2
  obtain ⟨rfl, -⟩ := r1
  refine lia ph0 hx2 rfl <| lhx 0 11 g1 rfl <| qc h (m_l_toCond_ok N · x2 ·) rfl rfl rfl fun x3 h => ?_
  obtain ⟨x4, hx4, h⟩ := bs h
  obtain ⟨cs2, F2, -, g2, hb2, hs2, r2⟩ := k1.elS (idx_some hx4).2.2
  obtain ⟨rfl, -⟩ := r2
  refine lio k1 hx4 rfl <| lu (u_setF (js := [0]) (Rr := []) (vs := [iV x3.Op, iV x3.L.K, .string x3.L.S, iV x3.L.V.K, iV x3.L.V.N, .string x3.L.V.S, iV x3.R.K, .string x3.R.S, iV x3.R.V.K, iV x3.R.V.N, .string x3.R.V.S]) (x' := x3) RTCond.lasts RTCond.flat Sz_137 rfl rfl rfl rfl ⟨rfl, rfl, rfl, rfl, rfl, rfl, rfl, rfl, rfl, rfl, rfl, trivial⟩ rfl k1 (idx_lt hx4) ⟨rfl, rfl⟩) rfl ?_
  rintro Φ_3 D2 ⟨⟨ap1, fr2⟩, h2⟩
  refine art 7 [] rfl ?_
  exact lb [0] [] (ih1 (_, _, _) ⟨h, h2⟩)
 refine att 6 [] rfl ?_
 exact rtg [0] hF (resOk.one rfl) rfl (by cases h; exact fun w1 hw => ⟨v1, rfl, rfl, k1⟩)
theorem m_l_toExpr_ok  (w0 : Base Ψ Φ []) (p0 : TExpr)  {r : TExpr} (h : m_l_toExpr N p0 = some r) :
  CB w0 prog 155 [.agg [.string p0.Op, iV p0.L.K, .string p0.L.S, iV p0.L.V.K, iV p0.L.V.N, .string p0.L.V.S, iV p0.R.K, .string p0.R.S, iV p0.R.V.K, iV p0.R.V.N, .string p0.R.V.S].toArray] (.agg [.string r.Op, iV r.L.K, .string r.L.S, iV r.L.V.K, iV r.L.V.N, .string r.L.V.S, iV r.R.K, .string r.R.S, iV r.R.V.K, iV r.R.V.N, .string r.R.V.S].toArray) := by
 refine eN func155 rfl ntmps155 rfl w0 fun hF => ?_
 unfold m_l_toExpr at h
 refine sr <| lbx rfl fun b_1 => lnz Zr_229 rfl fun b_2 => en <| sr <| lnz Zr_229 rfl fun b_3 => arr 6 [0, 64, 0] rfl <| so1 0 Sz_9 rfl rfl ?_
 refine arr 5 [1, 69] rfl <| qc h (m_l_toArg_ok N · p0.L ·) rfl rfl rfl fun x1 h => lf Fld_229_1 rfl rfl rfl <| soN 0 Sz_135 rfl ⟨rfl, rfl, rfl, rfl, rfl, trivial⟩ rfl ?_
 refine arr 5 [6, 69] rfl <| qc h (m_l_toArg_ok N · p0.R ·) rfl rfl rfl fun x2 h => lf Fld_229_2 rfl rfl rfl <| soN 0 Sz_135 rfl ⟨rfl, rfl, rfl, rfl, rfl, trivial⟩ rfl ?_
 refine arr 4 [11] rfl <| soN 1 Sz_229 rfl ⟨rfl, rfl, rfl, rfl, rfl, rfl, rfl, rfl, rfl, rfl, rfl, trivial⟩ rfl ?_
 refine en ?_
 refine WT.ret hF (resOk.one (rv_cell Tn_229 rfl (fun w1 hw => hw.rgO (i := 1) rfl 0 11 [.string p0.Op, iV x1.K, .string x1.S, iV x1.V.K, iV x1.V.N, .string x1.V.S, iV x2.K, .string x2.S, iV x2.V.K, iV x2.V.N, .string x2.V.S] rfl) rfl)) (fun w1 hw => ?_)
 cases h
 exact post_of_St hw
theorem m_l_toExprS_ok (w0 : Base Ψ Φ []) (p0 : (List TExpr)) (ph0 : RSl RTExpr 11 Ψ pG0 pv0 p0) {r : (List TExpr)} (h : m_l_toExprS N p0 = some r) :
  Calls prog 143 [pv0].toArray w0.w (PostG Φ w0.w [] (fun Φ' Fs v => ∃ (sr_0_0 : Value), v = sr_0_0 ∧ Fs = [ob sr_0_0] ∧ OSl RTExpr 229 11 Φ' [] sr_0_0 r)) := by
 refine eN func143 rfl ntmps143 rfl w0 fun hF => ?_
 unfold m_l_toExprS at h
 refine atr 7 [] rfl <| lnr ph0 rfl ?_
 obtain ⟨x1, hx1, h⟩ := bs h
 refine le' (e_make (R := RTExpr) Sl_191 Zr_229 By_229 rfl rfl rfl (fun _ => ⟨rfl, rfl⟩) rfl rfl (Int.le_refl _) hx1 (mk_le hx1)) rfl ?_
 rintro v1 Φ_1 D1 ⟨fr1, h1⟩
 refine art 8 [] rfl ?_
 refine lin (σ := Hp × (List TExpr) × Int) (fun s => [(0, pv0), (3, v1), (4, iV s.2.2)]) (fun s => St w0 s.1 [] [ob v1]) (fun m s => m_l_toExprS_l1 N p0 m s.2.1 s.2.2 = some r ∧ (OSl RTExpr 229 11 s.1 [] v1 s.2.1)) (Φ_1, x1, 0) N ⟨h, h1⟩ (sx [0] []) (fun n1 ih1 s hm => ?_)
 obtain ⟨Φ_2, s1, s2⟩ := s
 obtain ⟨h, k1⟩ := hm
 dsimp only at h k1 ⊢
 unfold m_l_toExprS_l1 at h
 refine atr 5 [] rfl <| lnr ph0 rfl <| la rfl <| en ?_
 refine ch h rfl ?_ ?_ <;> intro h
 ·refine atr 8 [] rfl ?_
  obtain ⟨x2, hx2, h⟩ := bs h
  obtain ⟨cs1, F1, -, g1, hb1, hs1, r1⟩ := ph0.el (idx_some hx2).2.2
  obtain ⟨rfl, -⟩ := r1
  refine lia ph0 hx2 rfl <| lhx 0 11 g1 rfl <| qc h (m_l_toExpr_ok N · x2 ·) rfl rfl rfl fun x3 h => ?_
  obtain ⟨x4, hx4, h⟩ := bs h
  obtain ⟨cs2, F2, -, g2, hb2, hs2, r2⟩ := k1.elS (idx_some hx4).2.2
  obtain ⟨rfl, -⟩ := r2
  refine lio k1 hx4 rfl <| lu (u_setF (js := [0]) (Rr := []) (vs := [.string x3.Op, iV x3.L.K, .string x3.L.S, iV x3.L.V.K, iV x3.L.V.N, .string x3.L.V.S, iV x3.R.K, .string x3.R.S, iV x3.R.V.K, iV x3.R.V.N, .string x3.R.V.S]) (x' := x3) RTExpr.lasts RTExpr.flat Sz_229 rfl rfl rfl rfl ⟨rfl, rfl, rfl, rfl, rfl, rfl, rfl, rfl, rfl, rfl, rfl, trivial⟩ rfl k1 (idx_lt hx4) ⟨rfl, rfl⟩) rfl ?_
  rintro Φ_3 D2 ⟨⟨ap1, fr2⟩, h2⟩
  refine art 7 [] rfl ?_
  exact lb [0] [] (ih1 (_, _, _) ⟨h, h2⟩)
 refine att 6 [] rfl ?_
 exact rtg [0] hF (resOk.one rfl) rfl (by cases h; exact fun w1 hw => ⟨v1, rfl, rfl, k1⟩)
theorem m_l_toAct_ok (w0 : Base Ψ Φ []) (p0 : TAct) (ph0_0 : RSl RTExpr 11 Ψ pG0_0 pv0_0 p0.Args) {r : TAct} (h : m_l_toAct N p0 = some r) :
  Calls prog 122 [.agg [iV p0.Kind, .string p0.Name, pv0_0, iV p0.N, .string p0.Undo].toArray].toArray w0.w (PostG Φ w0.w [] (fun Φ' Fs v => ∃ (sr_0_0 : Value), v = .agg [iV r.Kind, .string r.Name, sr_0_0, iV r.N, .string r.Undo].toArray ∧ Fs = [ob sr_0_0] ∧ OSl RTExpr 229 11 Φ' [] sr_0_0 r.Args)) := by
 refine eN func122 rfl ntmps122 rfl w0 fun hF => ?_
 unfold m_l_toAct at h
 refine sr <| lbx rfl fun b_1 => lnz Zr_193 rfl fun b_2 => en <| sr <| lnz Zr_193 rfl fun b_3 => arr 6 [0, 64, 0] rfl <| so1 0 Sz_3 rfl rfl ?_
 refine arr 6 [1, 64, 1] rfl <| so1 0 Sz_9 rfl rfl ?_
 refine arr 5 [2, 64] rfl <| kab h rfl rfl rfl (fun b z q => m_l_toExprS_ok N b p0.Args (ph0_0.y z) q) ?_
 rintro x1 h v1 Φ_1 F1 ⟨ap1, fr1, v2, rfl, rfl, h1⟩
 refine lf Fld_193_2 rfl rfl rfl <| so1 0 Sz_191 rfl h1.one ?_
 refine arr 6 [3, 64, 3] rfl <| so1 0 Sz_3 rfl rfl ?_
 refine arr 6 [4, 64, 4] rfl <| so1 0 Sz_9 rfl rfl ?_
 refine arr 4 [5] rfl <| soN 1 Sz_193 rfl ⟨rfl, rfl, h1.one, rfl, rfl, trivial⟩ rfl ?_
 refine en ?_
 exact rtg [0] hF (resOk.one (rv_cell Tn_193 rfl (fun w1 hw => hw.rgO (i := 1) rfl 0 5 [iV p0.Kind, .string p0.Name, v1, iV p0.N, .string p0.Undo] rfl) rfl)) rfl (by cases h; exact fun w1 hw => ⟨v1, rfl, rfl, h1⟩)
theorem m_l_toActS_ok (w0 : Base Ψ Φ []) (p0 : (List TAct)) (ph0 : RSl RTAct 5 Ψ pG0 pv0 p0) {r : (List TAct)} (h : m_l_toActS N p0 = some r) :
  Calls prog 95 [pv0].toArray w0.w (PostG Φ w0.w [] (fun Φ' Fs v => ∃ (sr_0_0 : Value) (Dr_0_0 : List Nat), v = sr_0_0 ∧ Fs = [ob sr_0_0, Dr_0_0] ∧ OSl OTAct 193 5 Φ' Dr_0_0 sr_0_0 r)) := by
 refine eN func95 rfl ntmps95 rfl w0 fun hF => ?_
 unfold m_l_toActS at h
 refine atr 7 [] rfl <| lnr ph0 rfl ?_
 obtain ⟨x1, hx1, h⟩ := bs h
 refine le' (e_make (R := OTAct) Sl_74 Zr_193 By_193 rfl rfl rfl (fun _ => ⟨.slice none 0 0, rfl, rfl, OSl.nil _ _ _ _⟩) rfl rfl (Int.le_refl _) hx1 (mk_le hx1)) rfl ?_
 rintro v1 Φ_1 D1 ⟨fr1, h1⟩
 refine wl0 <| art 8 [] rfl ?_
 refine lin (σ := Hp × (List TAct) × List Nat × Int) (fun s => [(0, pv0), (3, v1), (4, iV s.2.2.2)]) (fun s => St w0 s.1 [] [s.2.2.1, ob v1]) (fun m s => m_l_toActS_l1 N p0 m s.2.1 s.2.2.2 = some r ∧ (OSl OTAct 193 5 s.1 s.2.2.1 v1 s.2.1)) (Φ_1, x1, [], 0) N ⟨h, h1⟩ (sx [0, 0] []) (fun n1 ih1 s hm => ?_)
 obtain ⟨Φ_2, s1, D2, s2⟩ := s
 obtain ⟨h, k1⟩ := hm
 dsimp only at h k1 ⊢
 unfold m_l_toActS_l1 at h
 refine atr 5 [] rfl <| lnr ph0 rfl <| la rfl <| en ?_
 refine ch h rfl ?_ ?_ <;> intro h
 ·refine atr 8 [] rfl ?_
  obtain ⟨x2, hx2, h⟩ := bs h
  obtain ⟨cs1, F1, -, g1, hb1, hs1, r1⟩ := ph0.el (idx_some hx2).2.2
  obtain ⟨v2, G1, rfl, hq1, h2⟩ := r1
  obtain rfl := hq1.symm
  refine lia ph0 hx2 rfl <| lhx 0 5 g1 rfl <| kab h rfl rfl rfl (fun b z q => m_l_toAct_ok N b x2 (h2.y z) q) ?_
  rintro x3 h v3 Φ_3 F2 ⟨ap1, fr2, v4, rfl, rfl, h3⟩
  replace k1 := k1.fr fr2 (ap1.q 1 rfl) (ap1.q 0 rfl)
  obtain ⟨x4, hx4, h⟩ := bs h
  obtain ⟨cs2, F3, -, g2, hb2, hs2, r2⟩ := k1.elS (idx_some hx4).2.2
  obtain ⟨v5, rfl, rfl, h4⟩ := r2
  have h5 := h4.rsl
  refine lio k1 hx4 rfl ?_
  have r3 : OTAct Φ_3 ((ob v4 ++ [])) [iV x3.Kind, .string x3.Name, v4, iV x3.N, .string x3.Undo] x3 := ⟨v4, rfl, rfl, h3⟩
  refine lu (u_setO (js := [2]) (Rr := [ob v4, D2]) (vs := [iV x3.Kind, .string x3.Name, v4, iV x3.N, .string x3.Undo]) (x' := x3) OTAct.lasts Sz_193 rfl rfl rfl rfl ⟨rfl, rfl, h3.one, rfl, rfl, trivial⟩ rfl k1 (idx_lt hx4) r3 (OTAct.knows _ _ _ _ r3) (fun ap => ap.q 1 rfl) (fun ap => by simpa [ob_nil] using (ap.q 0 rfl))) rfl ?_
  rintro Φ_4 D3 ⟨⟨ap2, fr3⟩, sp1, h6⟩
  refine wlL [D3, ob v1] (smg [2, 1] rfl (by simpa [List.append_assoc, ob_nil] using sp1)) <| art 7 [] rfl ?_
  exact lb [0, 0] [] (ih1 (_, _, _, _) ⟨h, h6⟩)
 refine att 6 [] rfl ?_
 exact rtg [1, 0] hF (resOk.one rfl) rfl (by cases h; exact fun w1 hw => ⟨v1, D2, rfl, rfl, k1⟩)
theorem m_l_toRule_ok (w0 : Base Ψ Φ []) (p0 : TRule) (ph0_0 : RSl RTPat 3 Ψ pG0_0 pv0_0 p0.Pats) (ph0_1 : RSl RTCond 11 Ψ pG0_1 pv0_1 p0.Conds) (ph0_2 : RSl RTAct 5 Ψ pG0_2 pv0_2 p0.Acts) {r : TRule} (h : m_l_toRule N p0 = some r) :
  Calls prog 60 [.agg [.string p0.Name, iV p0.Sal, pv0_0, pv0_1, pv0_2].toArray].toArray w0.w (PostG Φ w0.w [] (fun Φ' Fs v => ∃ (sr_0_0 : Value) (Dr_0_0 : List Nat) (sr_0_1 : Value) (sr_0_2 : Value) (Dr_0_2 : List Nat), v = .agg [.string r.Name, iV r.Sal, sr_0_0, sr_0_1, sr_0_2].toArray ∧ Fs = [ob sr_0_0, Dr_0_0, ob sr_0_1, ob sr_0_2, Dr_0_2] ∧ OSl OTPat 124 3 Φ' Dr_0_0 sr_0_0 r.Pats ∧ OSl RTCond 137 11 Φ' [] sr_0_1 r.Conds ∧ OSl OTAct 193 5 Φ' Dr_0_2 sr_0_2 r.Acts)) := by
 refine eN func60 rfl ntmps60 rfl w0 fun hF => ?_
 unfold m_l_toRule at h
 refine sr <| lbx rfl fun b_1 => lnz Zr_76 rfl fun b_2 => en <| sr <| lnz Zr_76 rfl fun b_3 => arr 6 [0, 64, 0] rfl <| so1 0 Sz_9 rfl rfl ?_
 refine arr 6 [1, 64, 1] rfl <| so1 0 Sz_3 rfl rfl ?_
 refine arr 5 [2, 64] rfl <| kab h rfl rfl rfl (fun b z q => m_l_toPatS_ok N b p0.Pats (ph0_0.y z) q) ?_
 rintro x1 h v1 Φ_1 F1 ⟨ap1, fr1, v2, D1, rfl, rfl, h1⟩
 refine lf Fld_76_2 rfl rfl rfl <| so1 0 Sz_72 rfl h1.one ?_
 refine arr 5 [3, 64] rfl <| kab h rfl rfl rfl (fun b z q => m_l_toCondS_ok N b p0.Conds (ph0_1.y z) q) ?_
 rintro x2 h v3 Φ_2 F2 ⟨ap2, fr2, v4, rfl, rfl, h2⟩
 replace h1 := h1.fr fr2 (ap2.q 0 rfl) (ap2.q 1 rfl)
 refine lf Fld_76_3 rfl rfl rfl <| so1 0 Sz_73 rfl h2.one ?_
 refine arr 5 [4, 64] rfl <| kab h rfl rfl rfl (fun b z q => m_l_toActS_ok N b p0.Acts (ph0_2.y z) q) ?_
 rintro x3 h v5 Φ_3 F3 ⟨ap3, fr3, v6, D2, rfl, rfl, h3⟩
 replace h1 := h1.fr fr3 (ap3.q 1 rfl) (ap3.q 2 rfl)
 replace h2 := h2.fr fr3 (ap3.q 0 rfl) dN
 refine lf Fld_76_4 rfl rfl rfl <| so1 0 Sz_74 rfl h3.one ?_
 refine arr 4 [5] rfl <| soN 1 Sz_76 rfl ⟨rfl, rfl, h1.one, h2.one, h3.one, trivial⟩ rfl ?_
 refine en ?_
 exact rtg [3, 3, 2, 0, 0] hF (resOk.one (rv_cell Tn_76 rfl (fun w1 hw => hw.rgO (i := 1) rfl 0 5 [.string p0.Name, iV p0.Sal, v1, v3, v5] rfl) rfl)) rfl (by cases h; exact fun w1 hw => ⟨v1, D1, v3, v5, D2, rfl, rfl, h1, h2, h3⟩)
theorem m_l_toRuleS_ok (w0 : Base Ψ Φ []) (p0 : (List TRule)) (ph0 : RSl RTRule 5 Ψ pG0 pv0 p0) {r : (List TRule)} (h : m_l_toRuleS N p0 = some r) :
  Calls prog 29 [pv0].toArray w0.w (PostG Φ w0.w [] (fun Φ' Fs v => ∃ (sr_0_0 : Value) (Dr_0_0 : List Nat), v = sr_0_0 ∧ Fs = [ob sr_0_0, Dr_0_0] ∧ OSl OTRule 76 5 Φ' Dr_0_0 sr_0_0 r)) := by
 refine eN func29 rfl ntmps29 rfl w0 fun hF => ?_
 unfold m_l_toRuleS at h
 refine atr 7 [] rfl <| lnr ph0 rfl ?_
 obtain ⟨x1, hx1, h⟩ := bs h
 refine le' (e_make (R := OTRule) Sl_37 Zr_76 By_76 rfl rfl rfl (fun _ => ⟨.slice none 0 0, [], .slice none 0 0, .slice none 0 0, [], rfl, rfl, OSl.nil _ _ _ _, OSl.nil _ _ _ _, OSl.nil _ _ _ _⟩) rfl rfl (Int.le_refl _) hx1 (mk_le hx1)) rfl ?_
 rintro v1 Φ_1 D1 ⟨fr1, h1⟩
 refine wl0 <| art 8 [] rfl ?_
 refine lin (σ := Hp × (List TRule) × List Nat × Int) (fun s => [(0, pv0), (3, v1), (4, iV s.2.2.2)]) (fun s => St w0 s.1 [] [s.2.2.1, ob v1]) (fun m s => m_l_toRuleS_l1 N p0 m s.2.1 s.2.2.2 = some r ∧ (OSl OTRule 76 5 s.1 s.2.2.1 v1 s.2.1)) (Φ_1, x1, [], 0) N ⟨h, h1⟩ (sx [0, 0] []) (fun n1 ih1 s hm => ?_)
 obtain ⟨Φ_2, s1, D2, s2⟩ := s
 obtain ⟨h, k1⟩ := hm
 dsimp only at h k1 ⊢
 unfold m_l_toRuleS_l1 at h
 refine atr 5 [] rfl <| lnr ph0 rfl <| la rfl <| en ?_
 refine ch h rfl ?_ ?_ <;> intro h
 ·refine atr 8 [] rfl ?_
  obtain ⟨x2, hx2, h⟩ := bs h
  obtain ⟨cs1, F1, -, g1, hb1, hs1, r1⟩ := ph0.el (idx_some hx2).2.2
  obtain ⟨v2, G1, v3, G2, v4, G3, rfl, rfl, h2, h3, h4⟩ := r1
  refine lia ph0 hx2 rfl <| lhx 0 5 g1 rfl <| kab h rfl rfl rfl (fun b z q => m_l_toRule_ok N b x2 (h2.y z) (h3.y z) (h4.y z) q) ?_
  rintro x3 h v5 Φ_3 F2 ⟨ap1, fr2, v6, D3, v7, v8, D4, rfl, rfl, h5, h6, h7⟩
  replace k1 := k1.fr fr2 (ap1.q 1 rfl) (ap1.q 0 rfl)
  obtain ⟨x4, hx4, h⟩ := bs h
  obtain ⟨cs2, F3, -, g2, hb2, hs2, r2⟩ := k1.elS (idx_some hx4).2.2
  obtain ⟨v9, D5, v10, v11, D6, rfl, rfl, h8, h9, h10⟩ := r2
  have h11 := h8.rslG OTPat.gives
  have h12 := h9.rsl
  have h13 := h10.rslG OTAct.gives
  refine lio k1 hx4 rfl ?_
  have r3 : OTRule Φ_3 ((ob v6 ++ D3) ++ ((ob v7 ++ []) ++ ((ob v8 ++ D4)))) [.string x3.Name, iV x3.Sal, v6, v7, v8] x3 := ⟨v6, D3, v7, v8, D4, rfl, rfl, h5, h6, h7⟩
  refine lu (u_setO (js := [6]) (Rr := [ob v6, D3, ob v7, ob v8, D4, D2]) (vs := [.string x3.Name, iV x3.Sal, v6, v7, v8]) (x' := x3) OTRule.lasts Sz_76 rfl rfl rfl rfl ⟨rfl, rfl, h5.one, h6.one, h7.one, trivial⟩ rfl k1 (idx_lt hx4) r3 (OTRule.knows _ _ _ _ r3) (fun ap => ap.q 5 rfl) (fun ap => by simpa [ob_nil] using (Dj.app (ap.q 0 rfl) (Dj.app (ap.q 1 rfl) (Dj.app (ap.q 2 rfl) (Dj.app (ap.q 3 rfl) (ap.q 4 rfl))))))) rfl ?_
  rintro Φ_4 D7 ⟨⟨ap2, fr3⟩, sp1, h14⟩
  refine wlL [D7, ob v1] (smg [6, 1, 1, 1, 1, 1] rfl (by simpa [List.append_assoc, ob_nil] using sp1)) <| art 7 [] rfl ?_
  exact lb [0, 0] [] (ih1 (_, _, _, _) ⟨h, h14⟩)
 refine att 6 [] rfl ?_
 exact rtg [1, 0] hF (resOk.one rfl) rfl (by cases h; exact fun w1 hw => ⟨v1, D2, rfl, rfl, k1⟩)
theorem m_l_toDef_ok (w0 : Base Ψ Φ []) (p0 : TDef) (ph0_0 : RSl RTRule 5 Ψ pG0_0 pv0_0 p0.Rules) {r : TDef} (h : m_l_toDef N p0 = some r) :
  Calls prog 8 [.agg [.string p0.Name, pv0_0].toArray].toArray w0.w (PostG Φ w0.w [] (fun Φ' Fs v => ∃ (sr_0_0 : Value) (Dr_0_0 : List Nat), v = .agg [.string r.Name, sr_0_0].toArray ∧ Fs = [ob sr_0_0, Dr_0_0] ∧ OSl OTRule 76 5 Φ' Dr_0_0 sr_0_0 r.Rules)) := by
 refine eN func8 rfl ntmps8 rfl w0 fun hF => ?_
 unfold m_l_toDef at h
 refine sr <| lbx rfl fun b_1 => lnz Zr_39 rfl fun b_2 => en <| sr <| lnz Zr_39 rfl fun b_3 => arr 6 [0, 64, 0] rfl <| so1 0 Sz_9 rfl rfl ?_
 refine arr 5 [1, 64] rfl <| kab h rfl rfl rfl (fun b z q => m_l_toRuleS_ok N b p0.Rules (ph0_0.y z) q) ?_
 rintro x1 h v1 Φ_1 F1 ⟨ap1, fr1, v2, D1, rfl, rfl, h1⟩
 refine lf Fld_39_1 rfl rfl rfl <| so1 0 Sz_37 rfl h1.one ?_
 refine arr 4 [2] rfl <| soN 1 Sz_39 rfl ⟨rfl, h1.one, trivial⟩ rfl ?_
 refine en ?_
 exact rtg [0, 0] hF (resOk.one (rv_cell Tn_39 rfl (fun w1 hw => hw.rgO (i := 1) rfl 0 2 [.string p0.Name, v1] rfl) rfl)) rfl (by cases h; exact fun w1 hw => ⟨v1, D1, rfl, rfl, h1⟩)
theorem m_l_toIntS_ok (w0 : Base Ψ Φ []) (p0 : (List Int)) (ph0 : RSl (RI .i64) 1 Ψ pG0 pv0 p0) {r : (List Int)} (h : m_l_toIntS N p0 = some r) :
  Calls prog 96 [pv0].toArray w0.w (PostG Φ w0.w [] (fun Φ' Fs v => ∃ (sr_0_0 : Value), v = sr_0_0 ∧ Fs = [ob sr_0_0] ∧ OSl (RI .i64) 3 1 Φ' [] sr_0_0 r)) := by
 refine eN func96 rfl ntmps96 rfl w0 fun hF => ?_
 unfold m_l_toIntS at h
 refine atr 7 [] rfl <| lnr ph0 rfl ?_
 obtain ⟨x1, hx1, h⟩ := bs h
 refine le' (e_make (R := (RI .i64)) Sl_77 Zr_3 By_3 rfl rfl rfl (fun _ => ⟨rfl, rfl⟩) rfl rfl (Int.le_refl _) hx1 (mk_le hx1)) rfl ?_
 rintro v1 Φ_1 D1 ⟨fr1, h1⟩
 refine art 8 [] rfl ?_
 refine lin (σ := Hp × (List Int) × Int) (fun s => [(0, pv0), (3, v1), (4, iV s.2.2)]) (fun s => St w0 s.1 [] [ob v1]) (fun m s => m_l_toIntS_l1 N p0 m s.2.1 s.2.2 = some r ∧ (OSl (RI .i64) 3 1 s.1 [] v1 s.2.1)) (Φ_1, x1, 0) N ⟨h, h1⟩ (sx [0] []) (fun n1 ih1 s hm => ?_)
 obtain ⟨Φ_2, s1, s2⟩ := s
 obtain ⟨h, k1⟩ := hm
 dsimp only at h k1 ⊢
 unfold m_l_toIntS_l1 at h
 refine atr 5 [] rfl <| lnr ph0 rfl <| la rfl <| en ?_
 refine ch h rfl ?_ ?_ <;> intro h
 ·refine atr 8 [] rfl ?_
  obtain ⟨x2, hx2, h⟩ := bs h
  obtain ⟨cs1, F1, -, g1, hb1, hs1, r1⟩ := ph0.el (idx_some hx2).2.2
  obtain ⟨rfl, -⟩ := r1
  refine lia ph0 hx2 rfl <| lhx 0 0 g1 rfl ?_
  obtain ⟨x3, hx3, h⟩ := bs h
  obtain ⟨cs2, F2, -, g2, hb2, hs2, r2⟩ := k1.elS (idx_some hx3).2.2
  obtain ⟨rfl, -⟩ := r2
  refine lio k1 hx3 rfl <| lu (u_setF (js := [0]) (Rr := []) (vs := [iV x2]) (x' := x2) RI.lasts RI.flat Sz_3 rfl rfl rfl rfl ⟨rfl, trivial⟩ rfl k1 (idx_lt hx3) ⟨rfl, rfl⟩) rfl ?_
  rintro Φ_3 D2 ⟨⟨ap1, fr2⟩, h2⟩
  refine art 7 [] rfl ?_
  exact lb [0] [] (ih1 (_, _, _) ⟨h, h2⟩)
 refine att 6 [] rfl ?_
 exact rtg [0] hF (resOk.one rfl) rfl (by cases h; exact fun w1 hw => ⟨v1, rfl, rfl, k1⟩)
theorem m_l_toIds_ok (w0 : Base Ψ Φ []) (p0 : TIds) (ph0_0 : RSl (RI .i64) 1 Ψ pG0_0 pv0_0 p0.L) {r : TIds} (h : m_l_toIds N p0 = some r) :
  Calls prog 61 [.agg [pv0_0].toArray].toArray w0.w (PostG Φ w0.w [] (fun Φ' Fs v => ∃ (sr_0_0 : Value), v = .agg [sr_0_0].toArray ∧ Fs = [ob sr_0_0] ∧ OSl (RI .i64) 3 1 Φ' [] sr_0_0 r.L)) := by
 refine eN func61 rfl ntmps61 rfl w0 fun hF => ?_
 unfold m_l_toIds at h
 refine sr ?_
 refine ln (n_box (C := #[pv0_0]) rfl rfl) rfl (fun b_1 => ?_)
 refine ln (n_alloc (C := #[.slice none 0 0]) Zr_139 rfl) rfl (fun b_2 => ?_)
 refine en <| sr ?_
 refine ln (n_alloc (C := #[.slice none 0 0]) Zr_139 rfl) rfl (fun b_3 => ?_)
 refine arr 5 [0, 64] rfl <| kab h rfl rfl rfl (fun b z q => m_l_toIntS_ok N b p0.L (ph0_0.y z) q) ?_
 rintro x1 h v1 Φ_1 F1 ⟨ap1, fr1, v2, rfl, rfl, h1⟩
 refine lf Fld_139_0 rfl rfl rfl <| so1 0 Sz_77 rfl h1.one ?_
 refine en <| sr <| lq (q_loadN Tn_139 rfl (fun w1 hw => hw.rgO (i := 0) rfl 0 1 [v1] rfl) rfl) rfl <| soN 1 Sz_139 rfl ⟨h1.one, trivial⟩ rfl ?_
 refine en ?_
 exact rtg [0] hF (resOk.one (rv_cell Tn_139 rfl (fun w1 hw => hw.rgO (i := 1) rfl 0 1 [v1] rfl) rfl)) rfl (by cases h; exact fun w1 hw => ⟨v1, rfl, rfl, h1⟩)
theorem m_l_toIdsS_ok (w0 : Base Ψ Φ []) (p0 : (List TIds)) (ph0 : RSl RTIds 1 Ψ pG0 pv0 p0) {r : (List TIds)} (h : m_l_toIdsS N p0 = some r) :
  Calls prog 30 [pv0].toArray w0.w (PostG Φ w0.w [] (fun Φ' Fs v => ∃ (sr_0_0 : Value) (Dr_0_0 : List Nat), v = sr_0_0 ∧ Fs = [ob sr_0_0, Dr_0_0] ∧ OSl OTIds 139 1 Φ' Dr_0_0 sr_0_0 r)) := by
 refine eN func30 rfl ntmps30 rfl w0 fun hF => ?_
 unfold m_l_toIdsS at h
 refine atr 7 [] rfl <| lnr ph0 rfl ?_
 obtain ⟨x1, hx1, h⟩ := bs h
 refine le' (e_make (R := OTIds) Sl_41 Zr_139 By_139 rfl rfl rfl (fun _ => ⟨.slice none 0 0, rfl, rfl, OSl.nil _ _ _ _⟩) rfl rfl (Int.le_refl _) hx1 (mk_le hx1)) rfl ?_
 rintro v1 Φ_1 D1 ⟨fr1, h1⟩
 refine wl0 <| art 8 [] rfl ?_
 refine lin (σ := Hp × (List TIds) × List Nat × Int) (fun s => [(0, pv0), (3, v1), (4, iV s.2.2.2)]) (fun s => St w0 s.1 [] [s.2.2.1, ob v1]) (fun m s => m_l_toIdsS_l1 N p0 m s.2.1 s.2.2.2 = some r ∧ (OSl OTIds 139 1 s.1 s.2.2.1 v1 s.2.1)) (Φ_1, x1, [], 0) N ⟨h, h1⟩ (sx [0, 0] []) (fun n1 ih1 s hm => ?_)
 obtain ⟨Φ_2, s1, D2, s2⟩ := s
 obtain ⟨h, k1⟩ := hm
 dsimp only at h k1 ⊢
 unfold m_l_toIdsS_l1 at h
 refine atr 5 [] rfl <| lnr ph0 rfl <| la rfl <| en ?_
 refine ch h rfl ?_ ?_ <;> intro h
 ·refine atr 8 [] rfl ?_
  obtain ⟨x2, hx2, h⟩ := bs h
  obtain ⟨cs1, F1, -, g1, hb1, hs1, r1⟩ := ph0.el (idx_some hx2).2.2
  obtain ⟨v2, G1, rfl, hq1, h2⟩ := r1
  obtain rfl := hq1.symm
  refine lia ph0 hx2 rfl <| lhx 0 1 g1 rfl <| kab h rfl rfl rfl (fun b z q => m_l_toIds_ok N b x2 (h2.y z) q) ?_
  rintro x3 h v3 Φ_3 F2 ⟨ap1, fr2, v4, rfl, rfl, h3⟩
  replace k1 := k1.fr fr2 (ap1.q 1 rfl) (ap1.q 0 rfl)
  obtain ⟨x4, hx4, h⟩ := bs h
  obtain ⟨cs2, F3, -, g2, hb2, hs2, r2⟩ := k1.elS (idx_some hx4).2.2
  obtain ⟨v5, rfl, rfl, h4⟩ := r2
  have h5 := h4.rsl
  refine lio k1 hx4 rfl ?_
  have r3 : OTIds Φ_3 ((ob v4 ++ [])) [v4] x3 := ⟨v4, rfl, rfl, h3⟩
  refine lu (u_setO (js := [2]) (Rr := [ob v4, D2]) (vs := [v4]) (x' := x3) OTIds.lasts Sz_139 rfl rfl rfl rfl ⟨h3.one, trivial⟩ rfl k1 (idx_lt hx4) r3 (OTIds.knows _ _ _ _ r3) (fun ap => ap.q 1 rfl) (fun ap => by simpa [ob_nil] using (ap.q 0 rfl))) rfl ?_
  rintro Φ_4 D3 ⟨⟨ap2, fr3⟩, sp1, h6⟩
  refine wlL [D3, ob v1] (smg [2, 1] rfl (by simpa [List.append_assoc, ob_nil] using sp1)) <| art 7 [] rfl ?_
  exact lb [0, 0] [] (ih1 (_, _, _, _) ⟨h, h6⟩)
 refine att 6 [] rfl ?_
 exact rtg [1, 0] hF (resOk.one rfl) rfl (by cases h; exact fun w1 hw => ⟨v1, D2, rfl, rfl, k1⟩)
theorem m_l_toTok_ok (w0 : Base Ψ Φ []) (p0 : TTok) (ph0_0 : RSl (RI .i64) 1 Ψ pG0_0 pv0_0 p0.Ids) (ph0_1 : RSl (RI .i64) 1 Ψ pG0_1 pv0_1 p0.Hits) {r : TTok} (h : m_l_toTok N p0 = some r) :
  Calls prog 156 [.agg [pv0_0, pv0_1].toArray].toArray w0.w (PostG Φ w0.w [] (fun Φ' Fs v => ∃ (sr_0_0 : Value) (sr_0_1 : Value), v = .agg [sr_0_0, sr_0_1].toArray ∧ Fs = [ob sr_0_0, ob sr_0_1] ∧ OSl (RI .i64) 3 1 Φ' [] sr_0_0 r.Ids ∧ OSl (RI .i64) 3 1 Φ' [] sr_0_1 r.Hits)) := by
 refine eN func156 rfl ntmps156 rfl w0 fun hF => ?_
 unfold m_l_toTok at h
 refine sr <| lbx rfl fun b_1 => lnz Zr_79 rfl fun b_2 => en <| sr <| lnz Zr_79 rfl fun b_3 => arr 5 [0, 64] rfl <| kab h rfl rfl rfl (fun b z q => m_l_toIntS_ok N b p0.Ids (ph0_0.y z) q) ?_
 rintro x1 h v1 Φ_1 F1 ⟨ap1, fr1, v2, rfl, rfl, h1⟩
 refine lf Fld_79_0 rfl rfl rfl <| so1 0 Sz_77 rfl h1.one ?_
 refine arr 5 [1, 64] rfl <| kab h rfl rfl rfl (fun b z q => m_l_toIntS_ok N b p0.Hits (ph0_1.y z) q) ?_
 rintro x2 h v3 Φ_2 F2 ⟨ap2, fr2, v4, rfl, rfl, h2⟩
 replace h1 := h1.fr fr2 (ap2.q 0 rfl) dN
 refine lf Fld_79_1 rfl rfl rfl <| so1 0 Sz_77 rfl h2.one ?_
 refine arr 4 [2] rfl <| soN 1 Sz_79 rfl ⟨h1.one, h2.one, trivial⟩ rfl ?_
 refine en ?_
 exact rtg [1, 0] hF (resOk.one (rv_cell Tn_79 rfl (fun w1 hw => hw.rgO (i := 1) rfl 0 2 [v1, v3] rfl) rfl)) rfl (by cases h; exact fun w1 hw => ⟨v1, v3, rfl, rfl, h1, h2⟩)
theorem m_l_toTokS_ok (w0 : Base Ψ Φ []) (p0 : (List TTok)) (ph0 : RSl RTTok 2 Ψ pG0 pv0 p0) {r : (List TTok)} (h : m_l_toTokS N p0 = some r) :
  Calls prog 144 [pv0].toArray w0.w (PostG Φ w0.w [] (fun Φ' Fs v => ∃ (sr_0_0 : Value) (Dr_0_0 : List Nat), v = sr_0_0 ∧ Fs = [ob sr_0_0, Dr_0_0] ∧ OSl OTTok 79 2 Φ' Dr_0_0 sr_0_0 r)) := by
 refine eN func144 rfl ntmps144 rfl w0 fun hF => ?_
 unfold m_l_toTokS at h
 refine atr 7 [] rfl <| lnr ph0 rfl ?_
 obtain ⟨x1, hx1, h⟩ := bs h
 refine le' (e_make (R := OTTok) Sl_66 Zr_79 By_79 rfl rfl rfl (fun _ => ⟨.slice none 0 0, .slice none 0 0, rfl, rfl, OSl.nil _ _ _ _, OSl.nil _ _ _ _⟩) rfl rfl (Int.le_refl _) hx1 (mk_le hx1)) rfl ?_
 rintro v1 Φ_1 D1 ⟨fr1, h1⟩
 refine wl0 <| art 8 [] rfl ?_
 refine lin (σ := Hp × (List TTok) × List Nat × Int) (fun s => [(0, pv0), (3, v1), (4, iV s.2.2.2)]) (fun s => St w0 s.1 [] [s.2.2.1, ob v1]) (fun m s => m_l_toTokS_l1 N p0 m s.2.1 s.2.2.2 = some r ∧ (OSl OTTok 79 2 s.1 s.2.2.1 v1 s.2.1)) (Φ_1, x1, [], 0) N ⟨h, h1⟩ (sx [0, 0] []) (fun n1 ih1 s hm => ?_)
 obtain ⟨Φ_2, s1, D2, s2⟩ := s
 obtain ⟨h, k1⟩ := hm
 dsimp only at h k1 ⊢
 unfold m_l_toTokS_l1 at h
 refine atr 5 [] rfl <| lnr ph0 rfl <| la rfl <| en ?_
 refine ch h rfl ?_ ?_ <;> intro h
 ·refine atr 8 [] rfl ?_
  obtain ⟨x2, hx2, h⟩ := bs h
  obtain ⟨cs1, F1, -, g1, hb1, hs1, r1⟩ := ph0.el (idx_some hx2).2.2
  obtain ⟨v2, G1, v3, G2, rfl, rfl, h2, h3⟩ := r1
  refine lia ph0 hx2 rfl <| lhx 0 2 g1 rfl <| kab h rfl rfl rfl (fun b z q => m_l_toTok_ok N b x2 (h2.y z) (h3.y z) q) ?_
  rintro x3 h v4 Φ_3 F2 ⟨ap1, fr2, v5, v6, rfl, rfl, h4, h5⟩
  replace k1 := k1.fr fr2 (ap1.q 1 rfl) (ap1.q 0 rfl)
  obtain ⟨x4, hx4, h⟩ := bs h
  obtain ⟨cs2, F3, -, g2, hb2, hs2, r2⟩ := k1.elS (idx_some hx4).2.2
  obtain ⟨v7, v8, rfl, rfl, h6, h7⟩ := r2
  have h8 := h6.rsl
  have h9 := h7.rsl
  refine lio k1 hx4 rfl ?_
  have r3 : OTTok Φ_3 ((ob v5 ++ []) ++ ((ob v6 ++ []))) [v5, v6] x3 := ⟨v5, v6, rfl, rfl, h4, h5⟩
  refine lu (u_setO (js := [3]) (Rr := [ob v5, ob v6, D2]) (vs := [v5, v6]) (x' := x3) OTTok.lasts Sz_79 rfl rfl rfl rfl ⟨h4.one, h5.one, trivial⟩ rfl k1 (idx_lt hx4) r3 (OTTok.knows _ _ _ _ r3) (fun ap => ap.q 2 rfl) (fun ap => by simpa [ob_nil] using (Dj.app (ap.q 0 rfl) (ap.q 1 rfl)))) rfl ?_
  rintro Φ_4 D3 ⟨⟨ap2, fr3⟩, sp1, h10⟩
  refine wlL [D3, ob v1] (smg [3, 1, 1] rfl (by simpa [List.append_assoc, ob_nil] using sp1)) <| art 7 [] rfl ?_
  exact lb [0, 0] [] (ih1 (_, _, _, _) ⟨h, h10⟩)
 refine att 6 [] rfl ?_
 exact rtg [1, 0] hF (resOk.one rfl) rfl (by cases h; exact fun w1 hw => ⟨v1, D2, rfl, rfl, k1⟩)
theorem m_l_toLevel_ok (w0 : Base Ψ Φ []) (p0 : TLevel) (ph0_0 : RSl RTTok 2 Ψ pG0_0 pv0_0 p0.Toks) {r : TLevel} (h : m_l_toLevel N p0 = some r) :
  Calls prog 123 [.agg [pv0_0].toArray].toArray w0.w (PostG Φ w0.w [] (fun Φ' Fs v => ∃ (sr_0_0 : Value) (Dr_0_0 : List Nat), v = .agg [sr_0_0].toArray ∧ Fs = [ob sr_0_0, Dr_0_0] ∧ OSl OTTok 79 2 Φ' Dr_0_0 sr_0_0 r.Toks)) := by
 refine eN func123 rfl ntmps123 rfl w0 fun hF => ?_
 unfold m_l_toLevel at h
 refine sr ?_
 refine ln (n_box (C := #[pv0_0]) rfl rfl) rfl (fun b_1 => ?_)
 refine ln (n_alloc (C := #[.slice none 0 0]) Zr_68 rfl) rfl (fun b_2 => ?_)
 refine en <| sr ?_
 refine ln (n_alloc (C := #[.slice none 0 0]) Zr_68 rfl) rfl (fun b_3 => ?_)
 refine arr 5 [0, 64] rfl <| kab h rfl rfl rfl (fun b z q => m_l_toTokS_ok N b p0.Toks (ph0_0.y z) q) ?_
 rintro x1 h v1 Φ_1 F1 ⟨ap1, fr1, v2, D1, rfl, rfl, h1⟩
 refine lf Fld_68_0 rfl rfl rfl <| so1 0 Sz_66 rfl h1.one ?_
 refine en <| sr <| lq (q_loadN Tn_68 rfl (fun w1 hw => hw.rgO (i := 0) rfl 0 1 [v1] rfl) rfl) rfl <| soN 1 Sz_68 rfl ⟨h1.one, trivial⟩ rfl ?_
 refine en ?_
 exact rtg [0, 0] hF (resOk.one (rv_cell Tn_68 rfl (fun w1 hw => hw.rgO (i := 1) rfl 0 1 [v1] rfl) rfl)) rfl (by cases h; exact fun w1 hw => ⟨v1, D1, rfl, rfl, h1⟩)
theorem m_l_toLevelS_ok (w0 : Base Ψ Φ []) (p0 : (List TLevel)) (ph0 : RSl RTLevel 1 Ψ pG0 pv0 p0) {r : (List TLevel)} (h : m_l_toLevelS N p0 = some r) :
  Calls prog 97 [pv0].toArray w0.w (PostG Φ w0.w [] (fun Φ' Fs v => ∃ (sr_0_0 : Value) (Dr_0_0 : List Nat), v = sr_0_0 ∧ Fs = [ob sr_0_0, Dr_0_0] ∧ OSl OTLevel 68 1 Φ' Dr_0_0 sr_0_0 r)) := by
 refine eN func97 rfl ntmps97 rfl w0 fun hF => ?_
 unfold m_l_toLevelS at h
 refine atr 7 [] rfl <| lnr ph0 rfl ?_
 obtain ⟨x1, hx1, h⟩ := bs h
 refine le' (e_make (R := OTLevel) Sl_63 Zr_68 By_68 rfl rfl rfl (fun _ => ⟨.slice none 0 0, [], rfl, rfl, OSl.nil _ _ _ _⟩) rfl rfl (Int.le_refl _) hx1 (mk_le hx1)) rfl ?_
 rintro v1 Φ_1 D1 ⟨fr1, h1⟩
 refine wl0 <| art 8 [] rfl ?_
 refine lin (σ := Hp × (List TLevel) × List Nat × Int) (fun s => [(0, pv0), (3, v1), (4, iV s.2.2.2)]) (fun s => St w0 s.1 [] [s.2.2.1, ob v1]) (fun m s => m_l_toLevelS_l1 N p0 m s.2.1 s.2.2.2 = some r ∧ (OSl OTLevel 68 1 s.1 s.2.2.1 v1 s.2.1)) (Φ_1, x1, [], 0) N ⟨h, h1⟩ (sx [0, 0] []) (fun n1 ih1 s hm => ?_)
 obtain ⟨Φ_2, s1, D2, s2⟩ := s
 obtain ⟨h, k1⟩ := hm
 dsimp only at h k1 ⊢
 unfold m_l_toLevelS_l1 at h
 refine atr 5 [] rfl <| lnr ph0 rfl <| la rfl <| en ?_
 refine ch h rfl ?_ ?_ <;> intro h
 ·refine atr 8 [] rfl ?_
  obtain ⟨x2, hx2, h⟩ := bs h
  obtain ⟨cs1, F1, -, g1, hb1, hs1, r1⟩ := ph0.el (idx_some hx2).2.2
  obtain ⟨v2, G1, rfl, hq1, h2⟩ := r1
  obtain rfl := hq1.symm
  refine lia ph0 hx2 rfl <| lhx 0 1 g1 rfl <| kab h rfl rfl rfl (fun b z q => m_l_toLevel_ok N b x2 (h2.y z) q) ?_
  rintro x3 h v3 Φ_3 F2 ⟨ap1, fr2, v4, D3, rfl, rfl, h3⟩
  replace k1 := k1.fr fr2 (ap1.q 1 rfl) (ap1.q 0 rfl)
  obtain ⟨x4, hx4, h⟩ := bs h
  obtain ⟨cs2, F3, -, g2, hb2, hs2, r2⟩ := k1.elS (idx_some hx4).2.2
  obtain ⟨v5, D4, rfl, rfl, h4⟩ := r2
  have h5 := h4.rslG OTTok.gives
  refine lio k1 hx4 rfl ?_
  have r3 : OTLevel Φ_3 ((ob v4 ++ D3)) [v4] x3 := ⟨v4, D3, rfl, rfl, h3⟩
  refine lu (u_setO (js := [3]) (Rr := [ob v4, D3, D2]) (vs := [v4]) (x' := x3) OTLevel.lasts Sz_68 rfl rfl rfl rfl ⟨h3.one, trivial⟩ rfl k1 (idx_lt hx4) r3 (OTLevel.knows _ _ _ _ r3) (fun ap => ap.q 2 rfl) (fun ap => by simpa [ob_nil] using (Dj.app (ap.q 0 rfl) (ap.q 1 rfl)))) rfl ?_
  rintro Φ_4 D5 ⟨⟨ap2, fr3⟩, sp1, h6⟩
  refine wlL [D5, ob v1] (smg [3, 1, 1] rfl (by simpa [List.append_assoc, ob_nil] using sp1)) <| art 7 [] rfl ?_
  exact lb [0, 0] [] (ih1 (_, _, _, _) ⟨h, h6⟩)
 refine att 6 [] rfl ?_
 exact rtg [1, 0] hF (resOk.one rfl) rfl (by cases h; exact fun w1 hw => ⟨v1, D2, rfl, rfl, k1⟩)
theorem m_l_toRow_ok (w0 : Base Ψ Φ []) (p0 : TRow) (ph0_0 : RSl RTLevel 1 Ψ pG0_0 pv0_0 p0.Levels) {r : TRow} (h : m_l_toRow N p0 = some r) :
  Calls prog 62 [.agg [pv0_0].toArray].toArray w0.w (PostG Φ w0.w [] (fun Φ' Fs v => ∃ (sr_0_0 : Value) (Dr_0_0 : List Nat), v = .agg [sr_0_0].toArray ∧ Fs = [ob sr_0_0, Dr_0_0] ∧ OSl OTLevel 68 1 Φ' Dr_0_0 sr_0_0 r.Levels)) := by
 refine eN func62 rfl ntmps62 rfl w0 fun hF => ?_
 unfold m_l_toRow at h
 refine sr ?_
 refine ln (n_box (C := #[pv0_0]) rfl rfl) rfl (fun b_1 => ?_)
 refine ln (n_alloc (C := #[.slice none 0 0]) Zr_65 rfl) rfl (fun b_2 => ?_)
 refine en <| sr ?_
 refine ln (n_alloc (C := #[.slice none 0 0]) Zr_65 rfl) rfl (fun b_3 => ?_)
 refine arr 5 [0, 64] rfl <| kab h rfl rfl rfl (fun b z q => m_l_toLevelS_ok N b p0.Levels (ph0_0.y z) q) ?_
 rintro x1 h v1 Φ_1 F1 ⟨ap1, fr1, v2, D1, rfl, rfl, h1⟩
 refine lf Fld_65_0 rfl rfl rfl <| so1 0 Sz_63 rfl h1.one ?_
 refine en <| sr <| lq (q_loadN Tn_65 rfl (fun w1 hw => hw.rgO (i := 0) rfl 0 1 [v1] rfl) rfl) rfl <| soN 1 Sz_65 rfl ⟨h1.one, trivial⟩ rfl ?_
 refine en ?_
 exact rtg [0, 0] hF (resOk.one (rv_cell Tn_65 rfl (fun w1 hw => hw.rgO (i := 1) rfl 0 1 [v1] rfl) rfl)) rfl (by cases h; exact fun w1 hw => ⟨v1, D1, rfl, rfl, h1⟩)
theorem m_l_toRowS_ok (w0 : Base Ψ Φ []) (p0 : (List TRow)) (ph0 : RSl RTRow 1 Ψ pG0 pv0 p0) {r : (List TRow)} (h : m_l_toRowS N p0 = some r) :
  Calls prog 31 [pv0].toArray w0.w (PostG Φ w0.w [] (fun Φ' Fs v => ∃ (sr_0_0 : Value) (Dr_0_0 : List Nat), v = sr_0_0 ∧ Fs = [ob sr_0_0, Dr_0_0] ∧ OSl OTRow 65 1 Φ' Dr_0_0 sr_0_0 r)) := by
 refine eN func31 rfl ntmps31 rfl w0 fun hF => ?_
 unfold m_l_toRowS at h
 refine atr 7 [] rfl <| lnr ph0 rfl ?_
 obtain ⟨x1, hx1, h⟩ := bs h
 refine le' (e_make (R := OTRow) Sl_42 Zr_65 By_65 rfl rfl rfl (fun _ => ⟨.slice none 0 0, [], rfl, rfl, OSl.nil _ _ _ _⟩) rfl rfl (Int.le_refl _) hx1 (mk_le hx1)) rfl ?_
 rintro v1 Φ_1 D1 ⟨fr1, h1⟩
 refine wl0 <| art 8 [] rfl ?_
 refine lin (σ := Hp × (List TRow) × List Nat × Int) (fun s => [(0, pv0), (3, v1), (4, iV s.2.2.2)]) (fun s => St w0 s.1 [] [s.2.2.1, ob v1]) (fun m s => m_l_toRowS_l1 N p0 m s.2.1 s.2.2.2 = some r ∧ (OSl OTRow 65 1 s.1 s.2.2.1 v1 s.2.1)) (Φ_1, x1, [], 0) N ⟨h, h1⟩ (sx [0, 0] []) (fun n1 ih1 s hm => ?_)
 obtain ⟨Φ_2, s1, D2, s2⟩ := s
 obtain ⟨h, k1⟩ := hm
 dsimp only at h k1 ⊢
 unfold m_l_toRowS_l1 at h
 refine atr 5 [] rfl <| lnr ph0 rfl <| la rfl <| en ?_
 refine ch h rfl ?_ ?_ <;> intro h
 ·refine atr 8 [] rfl ?_
  obtain ⟨x2, hx2, h⟩ := bs h
  obtain ⟨cs1, F1, -, g1, hb1, hs1, r1⟩ := ph0.el (idx_some hx2).2.2
  obtain ⟨v2, G1, rfl, hq1, h2⟩ := r1
  obtain rfl := hq1.symm
  refine lia ph0 hx2 rfl <| lhx 0 1 g1 rfl <| kab h rfl rfl rfl (fun b z q => m_l_toRow_ok N b x2 (h2.y z) q) ?_
  rintro x3 h v3 Φ_3 F2 ⟨ap1, fr2, v4, D3, rfl, rfl, h3⟩
  replace k1 := k1.fr fr2 (ap1.q 1 rfl) (ap1.q 0 rfl)
  obtain ⟨x4, hx4, h⟩ := bs h
  obtain ⟨cs2, F3, -, g2, hb2, hs2, r2⟩ := k1.elS (idx_some hx4).2.2
  obtain ⟨v5, D4, rfl, rfl, h4⟩ := r2
  have h5 := h4.rslG OTLevel.gives
  refine lio k1 hx4 rfl ?_
  have r3 : OTRow Φ_3 ((ob v4 ++ D3)) [v4] x3 := ⟨v4, D3, rfl, rfl, h3⟩
  refine lu (u_setO (js := [3]) (Rr := [ob v4, D3, D2]) (vs := [v4]) (x' := x3) OTRow.lasts Sz_65 rfl rfl rfl rfl ⟨h3.one, trivial⟩ rfl k1 (idx_lt hx4) r3 (OTRow.knows _ _ _ _ r3) (fun ap => ap.q 2 rfl) (fun ap => by simpa [ob_nil] using (Dj.app (ap.q 0 rfl) (ap.q 1 rfl)))) rfl ?_
  rintro Φ_4 D5 ⟨⟨ap2, fr3⟩, sp1, h6⟩
  refine wlL [D5, ob v1] (smg [3, 1, 1] rfl (by simpa [List.append_assoc, ob_nil] using sp1)) <| art 7 [] rfl ?_
  exact lb [0, 0] [] (ih1 (_, _, _, _) ⟨h, h6⟩)
 refine att 6 [] rfl ?_
 exact rtg [1, 0] hF (resOk.one rfl) rfl (by cases h; exact fun w1 hw => ⟨v1, D2, rfl, rfl, k1⟩)
theorem m_l_toMem_ok (w0 : Base Ψ Φ []) (p0 : TMem) (ph0_0 : RSl RTIds 1 Ψ pG0_0 pv0_0 p0.Alphas) (ph0_1 : RSl RTRow 1 Ψ pG0_1 pv0_1 p0.Rules) {r : TMem} (h : m_l_toMem N p0 = some r) :
  Calls prog 9 [.agg [pv0_0, pv0_1].toArray].toArray w0.w (PostG Φ w0.w [] (fun Φ' Fs v => ∃ (sr_0_0 : Value) (Dr_0_0 : List Nat) (sr_0_1 : Value) (Dr_0_1 : List Nat), v = .agg [sr_0_0, sr_0_1].toArray ∧ Fs = [ob sr_0_0, Dr_0_0, ob sr_0_1, Dr_0_1] ∧ OSl OTIds 139 1 Φ' Dr_0_0 sr_0_0 r.Alphas ∧ OSl OTRow 65 1 Φ' Dr_0_1 sr_0_1 r.Rules)) := by
 refine eN func9 rfl ntmps9 rfl w0 fun hF => ?_
 unfold m_l_toMem at h
 refine sr <| lbx rfl fun b_1 => lnz Zr_44 rfl fun b_2 => en <| sr <| lnz Zr_44 rfl fun b_3 => arr 5 [0, 64] rfl <| kab h rfl rfl rfl (fun b z q => m_l_toIdsS_ok N b p0.Alphas (ph0_0.y z) q) ?_
 rintro x1 h v1 Φ_1 F1 ⟨ap1, fr1, v2, D1, rfl, rfl, h1⟩
 refine lf Fld_44_0 rfl rfl rfl <| so1 0 Sz_41 rfl h1.one ?_
 refine arr 5 [1, 64] rfl <| kab h rfl rfl rfl (fun b z q => m_l_toRowS_ok N b p0.Rules (ph0_1.y z) q) ?_
 rintro x2 h v3 Φ_2 F2 ⟨ap2, fr2, v4, D2, rfl, rfl, h2⟩
 replace h1 := h1.fr fr2 (ap2.q 0 rfl) (ap2.q 1 rfl)
 refine lf Fld_44_1 rfl rfl rfl <| so1 0 Sz_42 rfl h2.one ?_
 refine arr 4 [2] rfl <| soN 1 Sz_44 rfl ⟨h1.one, h2.one, trivial⟩ rfl ?_
 refine en ?_
 exact rtg [2, 2, 0, 0] hF (resOk.one (rv_cell Tn_44 rfl (fun w1 hw => hw.rgO (i := 1) rfl 0 2 [v1, v3] rfl) rfl)) rfl (by cases h; exact fun w1 hw => ⟨v1, D1, v3, D2, rfl, rfl, h1, h2⟩)
theorem m_l_toValS_ok (w0 : Base Ψ Φ []) (p0 : (List TVal)) (ph0 : RSl RTVal 3 Ψ pG0 pv0 p0) {r : (List TVal)} (h : m_l_toValS N p0 = some r) :
  Calls prog 124 [pv0].toArray w0.w (PostG Φ w0.w [] (fun Φ' Fs v => ∃ (sr_0_0 : Value), v = sr_0_0 ∧ Fs = [ob sr_0_0] ∧ OSl RTVal 133 3 Φ' [] sr_0_0 r)) := by
 refine eN func124 rfl ntmps124 rfl w0 fun hF => ?_
 unfold m_l_toValS at h
 refine atr 7 [] rfl <| lnr ph0 rfl ?_
 obtain ⟨x1, hx1, h⟩ := bs h
 refine le' (e_make (R := RTVal) Sl_125 Zr_133 By_133 rfl rfl rfl (fun _ => ⟨rfl, rfl⟩) rfl rfl (Int.le_refl _) hx1 (mk_le hx1)) rfl ?_
 rintro v1 Φ_1 D1 ⟨fr1, h1⟩
 refine art 8 [] rfl ?_
 refine lin (σ := Hp × (List TVal) × Int) (fun s => [(0, pv0), (3, v1), (4, iV s.2.2)]) (fun s => St w0 s.1 [] [ob v1]) (fun m s => m_l_toValS_l1 N p0 m s.2.1 s.2.2 = some r ∧ (OSl RTVal 133 3 s.1 [] v1 s.2.1)) (Φ_1, x1, 0) N ⟨h, h1⟩ (sx [0] []) (fun n1 ih1 s hm => ?_)
 obtain ⟨Φ_2, s1, s2⟩ := s
 obtain ⟨h, k1⟩ := hm
 dsimp only at h k1 ⊢
 unfold m_l_toValS_l1 at h
 refine atr 5 [] rfl <| lnr ph0 rfl <| la rfl <| en ?_
 refine ch h rfl ?_ ?_ <;> intro h
 ·refine atr 8 [] rfl ?_
  obtain ⟨x2, hx2, h⟩ := bs h
  obtain ⟨cs1, F1, -, g1, hb1, hs1, r1⟩ := ph0.el (idx_some hx2).2.2
  obtain ⟨rfl, -⟩ := r1
  refine lia ph0 hx2 rfl <| lhx 0 3 g1 rfl <| qc h (m_l_toVal_ok N · x2 ·) rfl rfl rfl fun x3 h => ?_
  obtain ⟨x4, hx4, h⟩ := bs h
  obtain ⟨cs2, F2, -, g2, hb2, hs2, r2⟩ := k1.elS (idx_some hx4).2.2
  obtain ⟨rfl, -⟩ := r2
  refine lio k1 hx4 rfl <| lu (u_setF (js := [0]) (Rr := []) (vs := [iV x3.K, iV x3.N, .string x3.S]) (x' := x3) RTVal.lasts RTVal.flat Sz_133 rfl rfl rfl rfl ⟨rfl, rfl, rfl, trivial⟩ rfl k1 (idx_lt hx4) ⟨rfl, rfl⟩) rfl ?_
  rintro Φ_3 D2 ⟨⟨ap1, fr2⟩, h2⟩
  refine art 7 [] rfl ?_
  exact lb [0] [] (ih1 (_, _, _) ⟨h, h2⟩)
 refine att 6 [] rfl ?_
 exact rtg [0] hF (resOk.one rfl) rfl (by cases h; exact fun w1 hw => ⟨v1, rfl, rfl, k1⟩)
theorem m_l_toFact_ok (w0 : Base Ψ Φ []) (p0 : TFact) (ph0_0 : RSl RTVal 3 Ψ pG0_0 pv0_0 p0.Fields) {r : TFact} (h : m_l_toFact N p0 = some r) :
  Calls prog 98 [.agg [.string p0.Kind, pv0_0].toArray].toArray w0.w (PostG Φ w0.w [] (fun Φ' Fs v => ∃ (sr_0_0 : Value), v = .agg [.string r.Kind, sr_0_0].toArray ∧ Fs = [ob sr_0_0] ∧ OSl RTVal 133 3 Φ' [] sr_0_0 r.Fields)) := by
 refine eN func98 rfl ntmps98 rfl w0 fun hF => ?_
 unfold m_l_toFact at h
 refine sr <| lbx rfl fun b_1 => lnz Zr_127 rfl fun b_2 => en <| sr <| lnz Zr_127 rfl fun b_3 => arr 6 [0, 64, 0] rfl <| so1 0 Sz_9 rfl rfl ?_
 refine arr 5 [1, 64] rfl <| kab h rfl rfl rfl (fun b z q => m_l_toValS_ok N b p0.Fields (ph0_0.y z) q) ?_
 rintro x1 h v1 Φ_1 F1 ⟨ap1, fr1, v2, rfl, rfl, h1⟩
 refine lf Fld_127_1 rfl rfl rfl <| so1 0 Sz_125 rfl h1.one ?_
 refine arr 4 [2] rfl <| soN 1 Sz_127 rfl ⟨rfl, h1.one, trivial⟩ rfl ?_
 refine en ?_
 exact rtg [0] hF (resOk.one (rv_cell Tn_127 rfl (fun w1 hw => hw.rgO (i := 1) rfl 0 2 [.string p0.Kind, v1] rfl) rfl)) rfl (by cases h; exact fun w1 hw => ⟨v1, rfl, rfl, h1⟩)
theorem m_l_toItem_ok (w0 : Base Ψ Φ []) (p0 : TItem) (ph0_0 : RSl RTVal 3 Ψ pG0_0 pv0_0 p0.F.Fields) {r : TItem} (h : m_l_toItem N p0 = some r) :
  Calls prog 63 [.agg [iV p0.Id, .string p0.F.Kind, pv0_0].toArray].toArray w0.w (PostG Φ w0.w [] (fun Φ' Fs v => ∃ (sr_0_0 : Value), v = .agg [iV r.Id, .string r.F.Kind, sr_0_0].toArray ∧ Fs = [ob sr_0_0] ∧ OSl RTVal 133 3 Φ' [] sr_0_0 r.F.Fields)) := by
 refine eN func63 rfl ntmps63 rfl w0 fun hF => ?_
 unfold m_l_toItem at h
 refine sr <| lbx rfl fun b_1 => lnz Zr_143 rfl fun b_2 => en <| sr <| lnz Zr_143 rfl fun b_3 => arr 6 [0, 64, 0] rfl <| so1 0 Sz_3 rfl rfl ?_
 refine arr 5 [1, 66] rfl <| kab h rfl rfl rfl (fun b z q => m_l_toFact_ok N b p0.F (ph0_0.y z) q) ?_
 rintro x1 h v1 Φ_1 F1 ⟨ap1, fr1, v2, rfl, rfl, h1⟩
 refine lf Fld_143_1 rfl rfl rfl <| soN 0 Sz_127 rfl ⟨rfl, h1.one, trivial⟩ rfl ?_
 refine arr 4 [3] rfl <| soN 1 Sz_143 rfl ⟨rfl, rfl, h1.one, trivial⟩ rfl ?_
 refine en ?_
 exact rtg [0] hF (resOk.one (rv_cell Tn_143 rfl (fun w1 hw => hw.rgO (i := 1) rfl 0 3 [iV p0.Id, .string x1.Kind, v2] rfl) rfl)) rfl (by cases h; exact fun w1 hw => ⟨v2, rfl, rfl, h1⟩)
theorem m_l_toItemS_ok (w0 : Base Ψ Φ []) (p0 : (List TItem)) (ph0 : RSl RTItem 3 Ψ pG0 pv0 p0) {r : (List TItem)} (h : m_l_toItemS N p0 = some r) :
  Calls prog 32 [pv0].toArray w0.w (PostG Φ w0.w [] (fun Φ' Fs v => ∃ (sr_0_0 : Value) (Dr_0_0 : List Nat), v = sr_0_0 ∧ Fs = [ob sr_0_0, Dr_0_0] ∧ OSl OTItem 143 3 Φ' Dr_0_0 sr_0_0 r)) := by
 refine eN func32 rfl ntmps32 rfl w0 fun hF => ?_
 unfold m_l_toItemS at h
 refine atr 7 [] rfl <| lnr ph0 rfl ?_
 obtain ⟨x1, hx1, h⟩ := bs h
 refine le' (e_make (R := OTItem) Sl_46 Zr_143 By_143 rfl rfl rfl (fun _ => ⟨.slice none 0 0, rfl, rfl, OSl.nil _ _ _ _⟩) rfl rfl (Int.le_refl _) hx1 (mk_le hx1)) rfl ?_
 rintro v1 Φ_1 D1 ⟨fr1, h1⟩
 refine wl0 <| art 8 [] rfl ?_
 refine lin (σ := Hp × (List TItem) × List Nat × Int) (fun s => [(0, pv0), (3, v1), (4, iV s.2.2.2)]) (fun s => St w0 s.1 [] [s.2.2.1, ob v1]) (fun m s => m_l_toItemS_l1 N p0 m s.2.1 s.2.2.2 = some r ∧ (OSl OTItem 143 3 s.1 s.2.2.1 v1 s.2.1)) (Φ_1, x1, [], 0) N ⟨h, h1⟩ (sx [0, 0] []) (fun n1 ih1 s hm => ?_)
 obtain ⟨Φ_2, s1, D2, s2⟩ := s
 obtain ⟨h, k1⟩ := hm
 dsimp only at h k1 ⊢
 unfold m_l_toItemS_l1 at h
 refine atr 5 [] rfl <| lnr ph0 rfl <| la rfl <| en ?_
 refine ch h rfl ?_ ?_ <;> intro h
 ·refine atr 8 [] rfl ?_
  obtain ⟨x2, hx2, h⟩ := bs h
  obtain ⟨cs1, F1, -, g1, hb1, hs1, r1⟩ := ph0.el (idx_some hx2).2.2
  obtain ⟨v2, G1, rfl, hq1, h2⟩ := r1
  obtain rfl := hq1.symm
  refine lia ph0 hx2 rfl <| lhx 0 3 g1 rfl <| kab h rfl rfl rfl (fun b z q => m_l_toItem_ok N b x2 (h2.y z) q) ?_
  rintro x3 h v3 Φ_3 F2 ⟨ap1, fr2, v4, rfl, rfl, h3⟩
  replace k1 := k1.fr fr2 (ap1.q 1 rfl) (ap1.q 0 rfl)
  obtain ⟨x4, hx4, h⟩ := bs h
  obtain ⟨cs2, F3, -, g2, hb2, hs2, r2⟩ := k1.elS (idx_some hx4).2.2
  obtain ⟨v5, rfl, rfl, h4⟩ := r2
  have h5 := h4.rsl
  refine lio k1 hx4 rfl ?_
  have r3 : OTItem Φ_3 ((ob v4 ++ [])) [iV x3.Id, .string x3.F.Kind, v4] x3 := ⟨v4, rfl, rfl, h3⟩
  refine lu (u_setO (js := [2]) (Rr := [ob v4, D2]) (vs := [iV x3.Id, .string x3.F.Kind, v4]) (x' := x3) OTItem.lasts Sz_143 rfl rfl rfl rfl ⟨rfl, rfl, h3.one, trivial⟩ rfl k1 (idx_lt hx4) r3 (OTItem.knows _ _ _ _ r3) (fun ap => ap.q 1 rfl) (fun ap => by simpa [ob_nil] using (ap.q 0 rfl))) rfl ?_
  rintro Φ_4 D3 ⟨⟨ap2, fr3⟩, sp1, h6⟩
  refine wlL [D3, ob v1] (smg [2, 1] rfl (by simpa [List.append_assoc, ob_nil] using sp1)) <| art 7 [] rfl ?_
  exact lb [0, 0] [] (ih1 (_, _, _, _) ⟨h, h6⟩)
 refine att 6 [] rfl ?_
 exact rtg [1, 0] hF (resOk.one rfl) rfl (by cases h; exact fun w1 hw => ⟨v1, D2, rfl, rfl, k1⟩)
theorem m_l_toStore_ok (w0 : Base Ψ Φ []) (p0 : TStore) (ph0_0 : RSl RTItem 3 Ψ pG0_0 pv0_0 p0.Items) {r : TStore} (h : m_l_toStore N p0 = some r) :
  Calls prog 10 [.agg [pv0_0, iV p0.Next].toArray].toArray w0.w (PostG Φ w0.w [] (fun Φ' Fs v => ∃ (sr_0_0 : Value) (Dr_0_0 : List Nat), v = .agg [sr_0_0, iV r.Next].toArray ∧ Fs = [ob sr_0_0, Dr_0_0] ∧ OSl OTItem 143 3 Φ' Dr_0_0 sr_0_0 r.Items)) := by
 refine eN func10 rfl ntmps10 rfl w0 fun hF => ?_
 unfold m_l_toStore at h
 refine sr <| lbx rfl fun b_1 => lnz Zr_48 rfl fun b_2 => en <| sr <| lnz Zr_48 rfl fun b_3 => arr 5 [0, 64] rfl <| kab h rfl rfl rfl (fun b z q => m_l_toItemS_ok N b p0.Items (ph0_0.y z) q) ?_
 rintro x1 h v1 Φ_1 F1 ⟨ap1, fr1, v2, D1, rfl, rfl, h1⟩
 refine lf Fld_48_0 rfl rfl rfl <| so1 0 Sz_46 rfl h1.one ?_
 refine arr 6 [1, 64, 1] rfl <| so1 0 Sz_3 rfl rfl ?_
 refine arr 4 [2] rfl <| soN 1 Sz_48 rfl ⟨h1.one, rfl, trivial⟩ rfl ?_
 refine en ?_
 exact rtg [0, 0] hF (resOk.one (rv_cell Tn_48 rfl (fun w1 hw => hw.rgO (i := 1) rfl 0 2 [v1, iV p0.Next] rfl) rfl)) rfl (by cases h; exact fun w1 hw => ⟨v1, D1, rfl, rfl, h1⟩)
theorem m_i_pats_ok (w0 : Base Ψ Φ []) (p0 : TRule) (p1 : Bool) (ph0_0 : RSl RTPat 3 Ψ pG0_0 pv0_0 p0.Pats) (ph0_1 : RSl RTCond 11 Ψ pG0_1 pv0_1 p0.Conds) (ph0_2 : RSl RTAct 5 Ψ pG0_2 pv0_2 p0.Acts) {r : (List TPat)} (h : m_i_pats N p0 p1 = some r) :
  Calls prog 64 [.agg [.string p0.Name, iV p0.Sal, pv0_0, pv0_1, pv0_2].toArray, .bool p1].toArray w0.w (PostG Φ w0.w [] (fun Φ' Fs v => ∃ (sr_0_0 : Value) (Dr_0_0 : List Nat), v = sr_0_0 ∧ Fs = [ob sr_0_0] ∧ OSl RTPat 124 3 Φ' Dr_0_0 sr_0_0 r ∧ (∀ k ∈ Dr_0_0, k ∈ pG0_0))) := by
 refine eN func64 rfl ntmps64 rfl w0 fun hF => ?_
 unfold m_i_pats at h
 refine sr <| lbx rfl fun b_1 => arr 11 [2, 0] rfl <| lnr ph0_0 rfl <| art 3 [] rfl <| wtS ?_
 have k1 := OSl.nil RTPat 124 3 Φ
 refine lin (σ := Hp × (List TPat) × Value × List Nat × Int) (fun s => [(1, .bool p1), (5, s.2.2.1), (9, pv0_0), (10, iV (p0.Pats.length : Int)), (11, iV s.2.2.2.2)]) (fun s => St w0 s.1 [] [ob s.2.2.1]) (fun m s => m_i_pats_l1 N p0 p1 m s.2.1 s.2.2.2.2 = some r ∧ (OSl RTPat 124 3 s.1 s.2.2.2.1 s.2.2.1 s.2.1) ∧ (∀ k ∈ s.2.2.2.1, k ∈ pG0_0)) (Φ, ([] : List TPat), (.slice none 0 0), [], 0) N ⟨h, k1, (by simp)⟩ (sx [0] []) (fun n1 ih1 s hm => ?_)
 obtain ⟨Φ_1, s1, u1, D1, s2⟩ := s
 obtain ⟨h, k2, i1⟩ := hm
 dsimp only at h k2 i1 ⊢
 unfold m_i_pats_l1 at h
 refine att 5 [] rfl ?_
 refine ch h rfl ?_ ?_ <;> intro h
 ·refine atr 5 [] rfl ?_
  obtain ⟨x1, hx1, h⟩ := bs h
  obtain ⟨cs1, F1, -, g1, hb1, hs1, r1⟩ := ph0_0.el (idx_some hx1).2.2
  obtain ⟨v1, G1, rfl, hq1, h1⟩ := r1
  obtain rfl := hq1.symm
  refine lia ph0_0 hx1 rfl <| lhx 0 3 g1 rfl <| lnz Zr_124 rfl fun b_2 => soN 0 Sz_124 rfl ⟨rfl, h1.one, rfl, trivial⟩ rfl ?_
  refine arr 6 [2, 0] rfl <| lq (q_beq Bo_4 rfl rfl) rfl <| en ?_
  refine ch h rfl ?_ ?_ <;> intro h
  ·refine atr 3 [3] rfl <| lu0 h1 fun h2 => ?_
   have rc1 : RC RTPat 3 Φ_1 ([G1] : List (List Nat)) [.string x1.Kind, v1, .bool x1.Not] ([x1] : List TPat) := RC.cons (c := [.string x1.Kind, v1, .bool x1.Not]) (cells := []) ⟨v1, G1, rfl, rfl, h2⟩ rfl (RC.nil _ _ _)
   refine le' (e_lit (vs := [(0, .agg [.string x1.Kind, v1, .bool x1.Not].toArray)]) (C := #[.string x1.Kind, v1, .bool x1.Not]) RTPat.lasts Sl_72 Zr_124 rfl rfl rfl rfl (fill_made MC_124_1 (fill_cons (C' := [.string x1.Kind, v1, .bool x1.Not]) rfl rfl rfl rfl rfl (fill_nil))) rfl rc1 rfl (RC.kn RTPat.knows rc1)) rfl ?_
   rintro v2 Φ_2 D2 ⟨fr1, h3⟩
   replace h3 : OSl RTPat 124 3 Φ_2 (G1) v2 ([x1] : List TPat) := by simpa [List.append_assoc] using h3
   replace k2 := k2.f0 fr1
   obtain ⟨x2, hx2, h⟩ := bs h
   refine le' (e_appO RTPat.lasts RTPat.one Sl_72 Ei_124 rfl rfl rfl rfl rfl (js := [1]) (Rr := [ob v2]) rfl k2 h3 (fun ap => (Dj.sub (ap.o ph0_0.old) i1)) (fun ap => (Dj.sub (Dj.sub (ap.o ph0_0.old) (fun k h => hs1 k h)) (fun k hk => (by simpa [List.append_assoc] using hk : k ∈ G1)))) hx2) rfl ?_
   rintro v3 Φ_3 D3 ⟨⟨ap1, fr2⟩, h4⟩
   refine art 7 [] rfl ?_
   exact lb [0] [] (ih1 (_, _, _, _, _) ⟨h, h4, (fun k hk => ((List.mem_append.1 hk).elim (fun h => (i1 k h)) (fun h => ((fun k h => hs1 k h) k ((fun k hk => (by simpa [List.append_assoc] using hk : k ∈ G1)) k h)))))⟩)
  refine att 6 [] rfl ?_
  exact lb [0] [] (ih1 (_, _, _, _, _) ⟨h, k2, (fun k hk => (i1 k hk))⟩)
 refine att 6 [] rfl ?_
 exact rtg [0] hF (resOk.one rfl) rfl (by cases h; exact fun w1 hw => ⟨u1, D1, rfl, rfl, k2, (fun k hk => (i1 k hk))⟩)
theorem m_sl_Clone_Si_Val_i_Val_ok (w0 : Base Ψ Φ []) (p0 : (List TVal)) (ph0 : RSl RTVal 3 Ψ pG0 pv0 p0) {r : (List TVal)} (h : m_sl_Clone_Si_Val_i_Val N p0 = some r) :
  Calls prog 146 [pv0].toArray w0.w (PostG Φ w0.w [] (fun Φ' Fs v => ∃ (sr_0_0 : Value), v = sr_0_0 ∧ Fs = [ob sr_0_0] ∧ OSl RTVal 133 3 Φ' [] sr_0_0 r)) := by
 refine eN func146 rfl ntmps146 rfl w0 fun hF => ?_
 unfold m_sl_Clone_Si_Val_i_Val at h
 refine att 6 [] rfl ?_
 rcases RSl.nilOr ph0 with ⟨hxs1, cc1, hv1⟩ | ⟨a1, cc1, hv1⟩
 ·replace h : some [] = some r := by simpa [hxs1, app] using h
  refine atr 2 [] rfl <| lq (q_eqNil Sl_125 (congrArg some hv1) rfl) rfl <| en ?_
  refine cd rfl (fun c => ?_) (fun c => by simp at c)
  refine att 4 [] rfl ?_
  refine WT.ret hF (resOk.one rfl) (fun w1 hw => ?_)
  cases h
  replace hw := hw.addNil
  refine postG_of_St (js := [0]) hw rfl ⟨.slice none 0 0, rfl, rfl, OSl.nil _ _ _ _⟩
 refine atr 2 [] rfl <| lq (q_eqNil Sl_125 (congrArg some hv1) rfl) rfl <| en ?_
 refine cd rfl (fun c => by simp at c) (fun c => ?_)
 refine atr 3 [] rfl <| le' (e_lit0 RTVal.lasts Sl_125 Zr_133 rfl rfl) rfl ?_
 rintro v1 Φ_1 D1 ⟨fr1, h1⟩
 refine la rfl <| lu0 ph0 fun h2 => ?_
 obtain ⟨x1, hx1, h⟩ := bs h
 refine le' (e_appF RTVal.lasts RTVal.one RTVal.flat Sl_125 Ei_133 rfl rfl rfl rfl rfl (js := [0]) (Rr := []) rfl h1 h2 hx1) rfl ?_
 rintro v2 Φ_2 D2 ⟨⟨ap1, fr2⟩, h3⟩
 refine la rfl <| en ?_
 exact rtg [0] hF (resOk.one rfl) rfl (by cases h; exact fun w1 hw => ⟨v2, rfl, rfl, h3⟩)
theorem m_i_copyFact_ok (w0 : Base Ψ Φ []) (p0 : TFact) (ph0_0 : RSl RTVal 3 Ψ pG0_0 pv0_0 p0.Fields) {r : TFact} (h : m_i_copyFact N p0 = some r) :
  Calls prog 125 [.agg [.string p0.Kind, pv0_0].toArray].toArray w0.w (PostG Φ w0.w [] (fun Φ' Fs v => ∃ (sr_0_0 : Value), v = .agg [.string r.Kind, sr_0_0].toArray ∧ Fs = [ob sr_0_0] ∧ OSl RTVal 133 3 Φ' [] sr_0_0 r.Fields)) := by
 refine eN func125 rfl ntmps125 rfl w0 fun hF => ?_
 unfold m_i_copyFact at h
 refine sr <| lbx rfl fun b_1 => lnz Zr_127 rfl fun b_2 => en <| sq <| wm [0, 1] [6] rfl <| amm 4 [0, 0, 1, 32, 2, 1, 3, 32] [0, 1] rfl rfl ?_
 obtain ⟨x1, hx1, h⟩ := bs h
 refine WM.one 4 (by kernel_rfl) (mc rfl (fun _ v Φx D w1 hq hw => Kn.of Kf.nil (ai2 0 1 rfl rfl) hw) (k_call (js := []) (R := []) Fun_146 rfl rfl (fun w1 hw ap hl => m_sl_Clone_Si_Val_i_Val_ok N (ba hw.fro) p0.Fields (ph0_0.y hw.up)  hx1)) rfl ?_)
 rintro v1 Φ_1 F1 ⟨ap1, fr1, v2, rfl, rfl, h1⟩
 refine mq 5 rfl (by kernel_rfl) (kN [0, 1]) (q_build (vs := [(0, .string p0.Kind), (1, v1)]) (C := #[.string p0.Kind, v1]) Pl_127 Zr_127 rfl (fill_cons (C' := [.string p0.Kind, .slice none 0 0]) rfl rfl rfl rfl rfl (fill_cons (C' := [.string p0.Kind, v1]) rfl (one_cells h1.one) rfl rfl rfl (fill_nil)))) rfl ?_
 refine on1 6 (msN 0 rfl nk Sz_127 rfl ⟨rfl, h1.one, trivial⟩ rfl rfl ?_)
 refine WM.nil (by kernel_rfl) ?_
 exact rtg [0] hF (resOk.one (rv_cell Tn_127 rfl (fun w1 hw => hw.rgO (i := 0) rfl 0 2 [.string p0.Kind, v1] rfl) rfl)) rfl (by cases h; exact fun w1 hw => ⟨v1, rfl, rfl, h1⟩)
theorem m_i_FactOf_ok (w0 : Base Ψ Φ []) (p0 : TStore) (p1 : Int) (ph0_0 : RSl RTItem 3 Ψ pG0_0 pv0_0 p0.Items) {r : TFact × Bool} (h : m_i_FactOf N p0 p1 = some r) :
  Calls prog 99 [.agg [pv0_0, iV p0.Next].toArray, iV p1].toArray w0.w (PostG Φ w0.w [] (fun Φ' Fs v => ∃ (sr_0_0 : Value), v = .tuple #[.agg [.string r.1.Kind, sr_0_0].toArray, .bool r.2] ∧ Fs = [ob sr_0_0] ∧ OSl RTVal 133 3 Φ' [] sr_0_0 r.1.Fields)) := by
 refine eN func99 rfl ntmps99 rfl w0 fun hF => ?_
 unfold m_i_FactOf at h
 refine sr <| lbx rfl fun b_1 => lnz Zr_127 rfl fun b_2 => arr 7 [0, 32] rfl <| lnr ph0_0 rfl <| art 3 [] rfl ?_
 refine lin (σ := Int) (fun s => [(1, iV p1), (4, pQ b_2), (9, pv0_0), (10, iV (p0.Items.length : Int)), (11, iV s)]) (fun s => St w0 Φ [(b_2, .cells #[.string (⟨#[]⟩ : ByteArray), .slice none 0 0] 127 (0, 0))] []) (fun m s => m_i_FactOf_l1 N p0 p1 m s = some r) (0) N h (sx [] [0]) (fun n1 ih1 s hm => ?_)
 revert hm; revert s; intro s1 hm
 have h : m_i_FactOf_l1 N p0 p1 (n1 + 1) s1 = some r := hm
 show WT _ _ [(1, iV p1), (4, pQ b_2), (9, pv0_0), (10, iV (p0.Items.length : Int)), (11, iV s1)] (St w0 Φ [(b_2, .cells #[.string (⟨#[]⟩ : ByteArray), .slice none 0 0] 127 (0, 0))] [])
 unfold m_i_FactOf_l1 at h
 refine att 5 [] rfl ?_
 refine ch h rfl ?_ ?_ <;> intro h
 ·refine atr 5 [] rfl ?_
  obtain ⟨x1, hx1, h⟩ := bs h
  obtain ⟨cs1, F1, -, g1, hb1, hs1, r1⟩ := ph0_0.el (idx_some hx1).2.2
  obtain ⟨v1, G1, rfl, hq1, h1⟩ := r1
  obtain rfl := hq1.symm
  refine lia ph0_0 hx1 rfl <| lhx 0 3 g1 rfl <| lnz Zr_143 rfl fun b_3 => soN 0 Sz_143 rfl ⟨rfl, rfl, h1.one, trivial⟩ rfl ?_
  refine art 8 [0, 0] rfl ?_
  refine ch h rfl ?_ ?_ <;> intro h
  ·refine atr 4 [1, 2] rfl <| kab h rfl rfl rfl (fun b z q => m_i_copyFact_ok N b x1.F (h1.y z) q) ?_
   rintro x2 h v2 Φ_1 F2 ⟨ap1, fr1, v3, rfl, rfl, h2⟩
   refine soN 1 Sz_127 rfl ⟨rfl, h2.one, trivial⟩ rfl ?_
   refine la rfl <| en ?_
   exact rtg [0] hF (resOk.two (rv_cell Tn_127 rfl (fun w1 hw => hw.rgO (i := 1) rfl 0 2 [.string x2.Kind, v3] rfl) rfl) rfl) rfl (by cases h; exact fun w1 hw => ⟨v3, rfl, rfl, h2⟩)
  refine att 6 [] rfl ?_
  exact lb [] [1] (ih1 _ h)
 refine xt rfl <| sr <| lq (q_build (vs := []) (C := #[.string (⟨#[]⟩ : ByteArray), .slice none 0 0]) Pl_127 Zr_127 rfl (fill_nil)) rfl <| soN 0 Sz_127 rfl ⟨rfl, rfl, trivial⟩ rfl ?_
 refine la rfl <| en ?_
 refine WT.ret hF (resOk.two (rv_cell Tn_127 rfl (fun w1 hw => hw.rgO (i := 0) rfl 0 2 [.string (⟨#[]⟩ : ByteArray), .slice none 0 0] rfl) rfl) rfl) (fun w1 hw => ?_)
 cases h
 replace hw := hw.addNil
 refine postG_of_St (js := [0]) hw rfl ⟨.slice none 0 0, rfl, rfl, OSl.nil _ _ _ _⟩
theorem m_sl_Clone_Si_Bind_i_Bind_ok (w0 : Base Ψ Φ []) (p0 : (List TBind)) (ph0 : RSl RTBind 4 Ψ pG0 pv0 p0) {r : (List TBind)} (h : m_sl_Clone_Si_Bind_i_Bind N p0 = some r) :
  Calls prog 126 [pv0].toArray w0.w (PostG Φ w0.w [] (fun Φ' Fs v => ∃ (sr_0_0 : Value), v = sr_0_0 ∧ Fs = [ob sr_0_0] ∧ OSl RTBind 164 4 Φ' [] sr_0_0 r)) := by
 refine eN func126 rfl ntmps126 rfl w0 fun hF => ?_
 unfold m_sl_Clone_Si_Bind_i_Bind at h
 refine att 6 [] rfl ?_
 rcases RSl.nilOr ph0 with ⟨hxs1, cc1, hv1⟩ | ⟨a1, cc1, hv1⟩
 ·replace h : some [] = some r := by simpa [hxs1, app] using h
  refine atr 2 [] rfl <| lq (q_eqNil Sl_69 (congrArg some hv1) rfl) rfl <| en ?_
  refine cd rfl (fun c => ?_) (fun c => by simp at c)
  refine att 4 [] rfl ?_
  refine WT.ret hF (resOk.one rfl) (fun w1 hw => ?_)
  cases h
  replace hw := hw.addNil
  refine postG_of_St (js := [0]) hw rfl ⟨.slice none 0 0, rfl, rfl, OSl.nil _ _ _ _⟩
 refine atr 2 [] rfl <| lq (q_eqNil Sl_69 (congrArg some hv1) rfl) rfl <| en ?_
 refine cd rfl (fun c => by simp at c) (fun c => ?_)
 refine atr 3 [] rfl <| le' (e_lit0 RTBind.lasts Sl_69 Zr_164 rfl rfl) rfl ?_
 rintro v1 Φ_1 D1 ⟨fr1, h1⟩
 refine la rfl <| lu0 ph0 fun h2 => ?_
 obtain ⟨x1, hx1, h⟩ := bs h
 refine le' (e_appF RTBind.lasts RTBind.one RTBind.flat Sl_69 Ei_164 rfl rfl rfl rfl rfl (js := [0]) (Rr := []) rfl h1 h2 hx1) rfl ?_
 rintro v2 Φ_2 D2 ⟨⟨ap1, fr2⟩, h3⟩
 refine la rfl <| en ?_
 exact rtg [0] hF (resOk.one rfl) rfl (by cases h; exact fun w1 hw => ⟨v2, rfl, rfl, h3⟩)
theorem m_i_BindOf_ok (w0 : Base Ψ Φ []) (p0 : (List TBind)) (p1 : ByteArray) (ph0 : RSl RTBind 4 Ψ pG0 pv0 p0) {r : TVal × Bool} (h : m_i_BindOf N p0 p1 = some r) :
  CB w0 prog 127 [pv0, .string p1] (.tuple #[.agg [iV r.1.K, iV r.1.N, .string r.1.S].toArray, .bool r.2]) := by
 refine eN func127 rfl ntmps127 rfl w0 fun hF => ?_
 unfold m_i_BindOf at h
 refine sr <| lnz Zr_133 rfl fun b_1 => arr 6 [] rfl <| lnr ph0 rfl <| art 3 [] rfl ?_
 refine lin (σ := Int) (fun s => [(1, .string p1), (4, pQ b_1), (8, pv0), (9, iV (p0.length : Int)), (10, iV s)]) (fun s => St w0 Φ [(b_1, .cells #[iV 0, iV 0, .string (⟨#[]⟩ : ByteArray)] 133 (0, 0))] []) (fun m s => m_i_BindOf_l1 N p0 p1 m s = some r) (0) N h (sx [] [0]) (fun n1 ih1 s hm => ?_)
 revert hm; revert s; intro s1 hm
 have h : m_i_BindOf_l1 N p0 p1 (n1 + 1) s1 = some r := hm
 show WT _ _ [(1, .string p1), (4, pQ b_1), (8, pv0), (9, iV (p0.length : Int)), (10, iV s1)] (St w0 Φ [(b_1, .cells #[iV 0, iV 0, .string (⟨#[]⟩ : ByteArray)] 133 (0, 0))] [])
 unfold m_i_BindOf_l1 at h
 refine att 5 [] rfl ?_
 refine ch h rfl ?_ ?_ <;> intro h
 ·refine atr 5 [] rfl ?_
  obtain ⟨x1, hx1, h⟩ := bs h
  obtain ⟨cs1, F1, -, g1, hb1, hs1, r1⟩ := ph0.el (idx_some hx1).2.2
  obtain ⟨rfl, -⟩ := r1
  refine lia ph0 hx1 rfl <| lhx 0 4 g1 rfl <| lnz Zr_164 rfl fun b_2 => soN 0 Sz_164 rfl ⟨rfl, rfl, rfl, rfl, trivial⟩ rfl ?_
  refine art 8 [0, 0] rfl ?_
  refine ch h rfl ?_ ?_ <;> intro h
  ·refine atr 4 [1, 3] rfl <| soN 1 Sz_133 rfl ⟨rfl, rfl, rfl, trivial⟩ rfl ?_
   refine la rfl <| en ?_
   refine WT.ret hF (resOk.two (rv_cell Tn_133 rfl (fun w1 hw => hw.rgO (i := 1) rfl 0 3 [iV x1.V.K, iV x1.V.N, .string x1.V.S] rfl) rfl) rfl) (fun w1 hw => ?_)
   cases h
   exact post_of_St hw
  refine att 6 [] rfl ?_
  exact lb [] [1] (ih1 _ h)
 refine xt rfl <| sr <| lq (q_build (vs := []) (C := #[iV 0, iV 0, .string (⟨#[]⟩ : ByteArray)]) Pl_133 Zr_133 rfl (fill_nil)) rfl <| soN 0 Sz_133 rfl ⟨rfl, rfl, rfl, trivial⟩ rfl ?_
 refine la rfl <| en ?_
 refine WT.ret hF (resOk.two (rv_cell Tn_133 rfl (fun w1 hw => hw.rgO (i := 0) rfl 0 3 [iV 0, iV 0, .string (⟨#[]⟩ : ByteArray)] rfl) rfl) rfl) (fun w1 hw => ?_)
 cases h
 exact post_of_St hw
theorem m_i_MatchPat_ok (w0 : Base Ψ Φ []) (p0 : TPat) (p1 : TFact) (p2 : (List TBind)) (ph0_0 : RSl RTArg 5 Ψ pG0_0 pv0_0 p0.Args) (ph1_0 : RSl RTVal 3 Ψ pG1_0 pv1_0 p1.Fields) (ph2 : RSl RTBind 4 Ψ pG2 pv2 p2) {r : (List TBind) × Bool} (h : m_i_MatchPat N p0 p1 p2 = some r) :
  Calls prog 100 [.agg [.string p0.Kind, pv0_0, .bool p0.Not].toArray, .agg [.string p1.Kind, pv1_0].toArray, pv2].toArray w0.w (PostG Φ w0.w [] (fun Φ' Fs v => ∃ (sr_0_0 : Value), v = .tuple #[sr_0_0, .bool r.2] ∧ Fs = [ob sr_0_0] ∧ OSl RTBind 164 4 Φ' [] sr_0_0 r.1)) := by
 refine eN func100 rfl ntmps100 rfl w0 fun hF => ?_
 unfold m_i_MatchPat at h
 refine sr <| lbx rfl fun b_1 => lbx rfl fun b_2 => arr 12 [0, 0, 0, 32] rfl ?_
 obtain ⟨b1, hb_1, h⟩ := bs h
 refine WL.cutN 8 [(27, .bool b1), (2, pv2), (3, pQ b_1), (4, pQ b_2)] ?_ (fun K => ?_)
 rotate_left
 ·refine sp 19 hb_1 rfl (fun hb_1 => ?_) fun hb_1 => ?_
  ·refine arr 8 [] rfl ?_
   cases hb_1
   exact ku K
  ·refine arr 2 [1, 0] rfl <| ly rfl rfl <| lnr ph1_0 rfl <| arr 2 [1, 32] rfl <| ly rfl rfl <| lnr ph0_0 rfl <| arr 2 [] rfl ?_
   cases hb_1
   exact ku K
 refine en ?_
 refine ch h rfl ?_ ?_ <;> intro h
 ·refine sr <| la rfl <| kab h rfl rfl rfl (fun b z q => m_sl_Clone_Si_Bind_i_Bind_ok N b p2 (ph2.y z) q) ?_
  rintro x1 h v1 Φ_1 F1 ⟨ap1, fr1, v2, rfl, rfl, h1⟩
  refine art 3 [] rfl ?_
  exact rtg [0] hF (resOk.two rfl rfl) rfl (by cases h; exact fun w1 hw => ⟨v1, rfl, rfl, h1⟩)
 refine atr 4 [] rfl <| kab h rfl rfl rfl (fun b z q => m_sl_Clone_Si_Bind_i_Bind_ok N b p2 (ph2.y z) q) ?_
 rintro x2 h v3 Φ_2 F2 ⟨ap2, fr2, v4, rfl, rfl, h2⟩
 refine arr 7 [1, 32] rfl <| lnr ph0_0 rfl <| art 3 [] rfl ?_
 refine lin (σ := Hp × (List TBind) × Value × Int) (fun s => [(2, pv2), (4, pQ b_2), (8, s.2.2.1), (33, pv0_0), (34, iV (p0.Args.length : Int)), (35, iV s.2.2.2)]) (fun s => St w0 s.1 [(b_2, .cells #[.string p1.Kind, pv1_0] 127 (0, 0))] [ob s.2.2.1]) (fun m s => m_i_MatchPat_l1 N p0 p1 p2 m s.2.1 s.2.2.2 = some r ∧ (OSl RTBind 164 4 s.1 [] s.2.2.1 s.2.1)) (Φ_2, x2, v3, 0) N ⟨h, h2⟩ (sx [0] [0]) (fun n1 ih1 s hm => ?_)
 obtain ⟨Φ_3, s1, u1, s2⟩ := s
 obtain ⟨h, k1⟩ := hm
 dsimp only at h k1 ⊢
 unfold m_i_MatchPat_l1 at h
 refine att 5 [] rfl ?_
 refine ch h rfl ?_ ?_ <;> intro h
 ·refine atr 6 [] rfl ?_
  obtain ⟨x3, hx3, h⟩ := bs h
  obtain ⟨cs1, F3, -, g1, hb1, hs1, r1⟩ := ph0_0.el (idx_some hx3).2.2
  obtain ⟨rfl, -⟩ := r1
  refine lia ph0_0 hx3 rfl <| lhx 0 5 g1 rfl <| lnz Zr_135 rfl fun b_3 => la rfl <| soN 0 Sz_135 rfl ⟨rfl, rfl, rfl, rfl, rfl, trivial⟩ rfl ?_
  refine arr 6 [1, 32] rfl ?_
  obtain ⟨x4, hx4, h⟩ := bs h
  obtain ⟨cs2, F4, -, g2, hb2, hs2, r2⟩ := ph1_0.el (idx_some hx4).2.2
  obtain ⟨rfl, -⟩ := r2
  refine lia ph1_0 hx4 rfl <| lhx 0 3 g2 rfl <| lnz Zr_133 rfl fun b_4 => soN 0 Sz_133 rfl ⟨rfl, rfl, rfl, trivial⟩ rfl ?_
  refine art 12 [0, 32] rfl ?_
  refine ch h rfl ?_ ?_ <;> intro h
  ·refine atr 5 [2, 35, 3] rfl <| lq (q_neA EqT_133 rfl rfl rfl (r := eqT_TVal x3.V x4) rfl) rfl <| en ?_
   refine ch h rfl ?_ ?_ <;> intro h
   ·refine sr <| la rfl <| kab h rfl rfl rfl (fun b z q => m_sl_Clone_Si_Bind_i_Bind_ok N b p2 (ph2.y z) q) ?_
    rintro x5 h v5 Φ_4 F5 ⟨ap3, fr3, v6, rfl, rfl, h3⟩
    refine art 3 [] rfl ?_
    exact rtg [0] hF (resOk.two rfl rfl) rfl (by cases h; exact fun w1 hw => ⟨v5, rfl, rfl, h3⟩)
   refine att 7 [] rfl ?_
   exact lb [0] [2] (ih1 (_, _, _, _) ⟨h, k1⟩)
  refine att 5 [] rfl ?_
  refine ch h rfl ?_ ?_ <;> intro h
  ·refine atr 5 [1, 32] rfl <| qc h (m_i_BindOf_ok N · s1 x3.S k1.rsl ·) rfl rfl rfl fun x6 h => arr 3 [] rfl <| lnz Zr_133 rfl fun b_5 => soN 0 Sz_133 rfl ⟨rfl, rfl, rfl, trivial⟩ rfl ?_
   refine arr 7 [] rfl ?_
   obtain ⟨b2, hb_2, h⟩ := bs h
   refine WL.cutN 4 [(69, .bool b2), (2, pv2), (4, pQ b_2), (8, u1), (10, pQ b_3), (11, pQ b_4), (13, .bool x6.2), (33, pv0_0), (34, iV (p0.Args.length : Int)), (35, iV s2)] ?_ (fun K => ?_)
   rotate_left
   ·refine sp 65 hb_2 rfl (fun hb_2 => ?_) fun hb_2 => ?_
    ·refine arr 2 [3, 35] rfl <| ly rfl rfl <| lq (q_neA EqT_133 rfl rfl rfl (r := eqT_TVal x6.1 x4) rfl) rfl <| la rfl ?_
     cases hb_2
     exact ku K
    ·refine arr 4 [] rfl ?_
     cases hb_2
     exact ku K
   refine en ?_
   refine ch h rfl ?_ ?_ <;> intro h
   ·refine sr <| la rfl <| kab h rfl rfl rfl (fun b z q => m_sl_Clone_Si_Bind_i_Bind_ok N b p2 (ph2.y z) q) ?_
    rintro x7 h v7 Φ_5 F6 ⟨ap4, fr4, v8, rfl, rfl, h4⟩
    refine art 3 [] rfl ?_
    exact rtg [0] hF (resOk.two rfl rfl) rfl (by cases h; exact fun w1 hw => ⟨v7, rfl, rfl, h4⟩)
   refine att 6 [] rfl ?_
   refine ch h rfl ?_ ?_ <;> intro h
   ·refine atr 5 [1, 64, 35] rfl <| lq (q_build (vs := [(0, .string x3.S), (1, .agg [iV x4.K, iV x4.N, .string x4.S].toArray)]) (C := #[.string x3.S, iV x4.K, iV x4.N, .string x4.S]) Pl_164 Zr_164 rfl (fill_cons (C' := [.string x3.S, iV 0, iV 0, .string ⟨#[]⟩]) rfl rfl rfl rfl rfl (fill_cons (C' := [.string x3.S, iV x4.K, iV x4.N, .string x4.S]) rfl rfl rfl rfl rfl (fill_nil)))) rfl ?_
    have rc1 : RC RTBind 4 Φ_3 ([[]] : List (List Nat)) [.string x3.S, iV x4.K, iV x4.N, .string x4.S] ([(⟨x3.S, x4⟩ : TBind)] : List TBind) := RC.cons (c := [.string x3.S, iV x4.K, iV x4.N, .string x4.S]) (cells := []) ⟨rfl, rfl⟩ rfl (RC.nil _ _ _)
    refine le' (e_lit (vs := [(0, .agg [.string x3.S, iV x4.K, iV x4.N, .string x4.S].toArray)]) (C := #[.string x3.S, iV x4.K, iV x4.N, .string x4.S]) RTBind.lasts Sl_69 Zr_164 rfl rfl rfl rfl (fill_made MC_164_1 (fill_cons (C' := [.string x3.S, iV x4.K, iV x4.N, .string x4.S]) rfl rfl rfl rfl rfl (fill_nil))) rfl rc1 rfl (by simpa using Kw.nil)) rfl ?_
    rintro v9 Φ_6 D1 ⟨fr5, h5⟩
    replace h5 : OSl RTBind 164 4 Φ_6 [] v9 ([(⟨x3.S, x4⟩ : TBind)] : List TBind) := by simpa using h5
    replace k1 := k1.f0 fr5
    obtain ⟨x8, hx8, h⟩ := bs h
    refine le' (e_appF RTBind.lasts RTBind.one RTBind.flat Sl_69 Ei_164 rfl rfl rfl rfl rfl (js := [1]) (Rr := [ob v9]) rfl k1 h5.rsl hx8) rfl ?_
    rintro v10 Φ_7 D2 ⟨⟨ap5, fr6⟩, h6⟩
    refine art 8 [] rfl ?_
    exact lb [0] [3] (ih1 (_, _, _, _) ⟨h, h6⟩)
   refine att 7 [] rfl ?_
   exact lb [0] [3] (ih1 (_, _, _, _) ⟨h, k1⟩)
  refine att 7 [] rfl ?_
  exact lb [0] [2] (ih1 (_, _, _, _) ⟨h, k1⟩)
 refine att 7 [] rfl ?_
 exact rtg [0] hF (resOk.two rfl rfl) rfl (by cases h; exact fun w1 hw => ⟨u1, rfl, rfl, k1⟩)
end Go.Proofs.YtjccaebpbieejaaGreat
