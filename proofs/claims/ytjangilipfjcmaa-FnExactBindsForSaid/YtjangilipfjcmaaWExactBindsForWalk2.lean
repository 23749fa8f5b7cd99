/- Printed by a program of ours: each Go function computes its Lean function. -/
import Derived.Test.YtjangilipfjcmaaProg
import Derived.Test.YtjangilipfjcmaaWExactBindsForWalk1
namespace Go.Proofs.Ytjangilipfjcmaa
open Eng
open Go.RowKit (Below)
set_option linter.unusedVariables false
set_option linter.unusedSimpArgs false

set_option maxRecDepth 100000
set_option maxHeartbeats 1000000
theorem m_l_toItem_ok {Φ : Hp} {w : World} (hΦ : In Φ w) (N : Nat) (p0 : TItem) {pv0_0 : Value} {pG0_0 : List Nat} (ph0_0 : RSl RTVal 3 Φ pG0_0 pv0_0 p0.F.Fields) {r : TItem} (h : m_l_toItem N p0 = some r) :
    Calls Try.prog 108 [.agg [.int .i64 p0.Id, .string p0.F.Kind, pv0_0].toArray].toArray w (PostG Φ w [] (fun Φ' Fs v => ∃ (sr_0_0 : Value), v = .agg [.int .i64 r.Id, .string r.F.Kind, sr_0_0].toArray ∧ Fs = [ob sr_0_0] ∧ OSl RTVal 109 3 Φ' [] sr_0_0 r.F.Fields)) := by
  refine enter Try.func108 rfl Try.ntmps108 rfl (St.start0 hΦ) ?_
  unfold m_l_toItem at h
  refine WT.seq ?_
  refine WT.region ?_
  refine ln (n_box (C := #[.int .i64 p0.Id, .string p0.F.Kind, pv0_0]) rfl rfl) rfl (fun b_1 => ?_)
  refine ln (n_alloc (C := #[.int .i64 0, .string (⟨#[]⟩ : ByteArray), .slice none 0 0]) Zr_171 rfl) rfl (fun b_2 => ?_)
  refine WL.nil ?_
  refine WT.seq ?_
  refine WT.region ?_
  refine ln (n_alloc (C := #[.int .i64 0, .string (⟨#[]⟩ : ByteArray), .slice none 0 0]) Zr_171 rfl) rfl (fun b_3 => ?_)
  refine WL.nil ?_
  refine WT.seq ?_
  refine WT.region ?_
  refine lq (q_fieldAddr Fld_169_0 rfl) rfl ?_
  refine lq (q_load1 T1_3 rfl (fun w1 hw => hw.rgO (i := 2) rfl 0 1 [.int .i64 p0.Id] rfl)) rfl ?_
  refine lq (q_fieldAddr Fld_171_0 rfl) rfl ?_
  refine ls (s_store (i := 0) (vs := [.int .i64 p0.Id]) (C' := [.int .i64 p0.Id, .string (⟨#[]⟩ : ByteArray), .slice none 0 0]) (O' := [(b_3, .cells #[.int .i64 p0.Id, .string (⟨#[]⟩ : ByteArray), .slice none 0 0] 171 (0, 0)), (b_2, .cells #[.int .i64 0, .string (⟨#[]⟩ : ByteArray), .slice none 0 0] 171 (0, 0)), (b_1, .cells #[.int .i64 p0.Id, .string p0.F.Kind, pv0_0] 169 (0, 0))]) Sz_3 rfl rfl rfl rfl rfl rfl ⟨rfl, trivial⟩ rfl rfl) rfl ?_
  refine WL.nil ?_
  refine WT.seq ?_
  refine WT.region ?_
  refine lq (q_fieldAddr Fld_169_1 rfl) rfl ?_
  refine lq (q_loadN Tn_167 rfl (fun w1 hw => hw.rgO (i := 2) rfl 1 2 [.string p0.F.Kind, pv0_0] rfl) rfl) rfl ?_
  obtain ⟨x1, hx1, h⟩ := bind_some h
  refine lc (k_call (js := []) (R := []) Fun_150 rfl rfl (fun w1 hw ap hl => m_l_toFact_ok hw.fro N p0.F ph0_0  hx1)) rfl (fun v1 Φ_1 F1 q1 => ?_)
  obtain ⟨ap1, fr1, v2, rfl, rfl, h1⟩ := q1
  refine lq (q_fieldAddr Fld_171_1 rfl) rfl ?_
  refine ls (s_store (i := 0) (vs := [.string x1.Kind, v2]) (C' := [.int .i64 p0.Id, .string x1.Kind, v2]) (O' := [(b_3, .cells #[.int .i64 p0.Id, .string x1.Kind, v2] 171 (0, 0)), (b_2, .cells #[.int .i64 0, .string (⟨#[]⟩ : ByteArray), .slice none 0 0] 171 (0, 0)), (b_1, .cells #[.int .i64 p0.Id, .string p0.F.Kind, pv0_0] 169 (0, 0))]) Sz_97 rfl rfl rfl rfl rfl rfl ⟨rfl, h1.one, trivial⟩ rfl rfl) rfl ?_
  refine WL.nil ?_
  refine WT.seq ?_
  refine WT.region ?_
  refine lq (q_loadN Tn_171 rfl (fun w1 hw => hw.rgO (i := 0) rfl 0 3 [.int .i64 p0.Id, .string x1.Kind, v2] rfl) rfl) rfl ?_
  refine ls (s_store (i := 1) (vs := [.int .i64 p0.Id, .string x1.Kind, v2]) (C' := [.int .i64 p0.Id, .string x1.Kind, v2]) (O' := [(b_3, .cells #[.int .i64 p0.Id, .string x1.Kind, v2] 171 (0, 0)), (b_2, .cells #[.int .i64 p0.Id, .string x1.Kind, v2] 171 (0, 0)), (b_1, .cells #[.int .i64 p0.Id, .string p0.F.Kind, pv0_0] 169 (0, 0))]) Sz_171 rfl rfl rfl rfl rfl rfl ⟨rfl, rfl, h1.one, trivial⟩ rfl rfl) rfl ?_
  refine WL.nil ?_
  refine WT.ret Try.func108 (resOk.one (rv_cell Tn_171 rfl (fun w1 hw => hw.rgO (i := 1) rfl 0 3 [.int .i64 p0.Id, .string x1.Kind, v2] rfl) rfl)) (fun w1 hw => ?_)
  cases h
  refine postG_of_St (js := [0]) hw rfl ⟨v2, rfl, rfl, h1⟩
theorem m_l_toItemS_ok {Φ : Hp} {w : World} (hΦ : In Φ w) (N : Nat) (p0 : (List TItem)) {pv0 : Value} {pG0 : List Nat} (ph0 : RSl RTItem 3 Φ pG0 pv0 p0) {r : (List TItem)} (h : m_l_toItemS N p0 = some r) :
    Calls Try.prog 57 [pv0].toArray w (PostG Φ w [] (fun Φ' Fs v => ∃ (sr_0_0 : Value) (Dr_0_0 : List Nat), v = sr_0_0 ∧ Fs = [ob sr_0_0, Dr_0_0] ∧ OSl OTItem 171 3 Φ' Dr_0_0 sr_0_0 r)) := by
  refine enter Try.func57 rfl Try.ntmps57 rfl (St.start0 hΦ) ?_
  have pa0 : Old ⟨w, [], Φ⟩ pG0 := Old.mk hΦ ph0.kn (Dj.empty _)
  revert pa0
  generalize hb0 : (⟨w, [], Φ⟩ : Base) = w0
  intro pa0
  unfold m_l_toItemS at h
  refine WT.seq ?_
  refine WT.region ?_
  refine lq (q_assign rfl) rfl ?_
  refine WL.nil ?_
  refine WT.seq ?_
  refine WT.region ?_
  refine lq (q_move rfl) rfl ?_
  refine lq (q_lenR Sl_38 rfl rfl ph0) rfl ?_
  obtain ⟨x1, hx1, h⟩ := bind_some h
  refine le' (e_make (R := OTItem) Sl_53 Zr_171 By_171 rfl rfl rfl (fun _ => ⟨.slice none 0 0, rfl, rfl, OSl.nil _ _ _ _⟩) rfl rfl (Int.le_refl _) hx1 (mk_le hx1)) rfl (fun v1 Φ_1 D1 q1 => ?_)
  obtain ⟨fr1, h1⟩ := q1
  replace ph0 := ph0.frame RTItem.lasts fr1 (Dj.empty _)
  refine WL.conv (S' := St w0 Φ_1 [] ([] :: [ob v1])) (fun w1 hw => hw.addNil) ?_
  refine lq (q_assign rfl) rfl ?_
  refine WL.nil ?_
  refine WT.seq ?_
  refine WT.seq ?_
  refine WT.region ?_
  refine lq (q_assign rfl) rfl ?_
  refine WL.nil ?_
  refine WT.block ?_
  refine WT.loop ?_
  refine WT.mono (l' := [(0, pv0), (3, v1), (4, .int .i64 0)]) (S' := St w0 Φ_1 [] [[], ob v1]) ⟨rfl, rfl, rfl, trivial⟩ (fun w1 hw => (hw.sel (js := [0, 0]) rfl).selO (js := []) rfl) ?_
  refine loop_ind (σ := Hp × (List TItem) × List Nat × Int) (fun s => [(0, pv0), (3, v1), (4, .int .i64 s.2.2.2)]) (fun s => St w0 s.1 [] [s.2.2.1, ob v1]) (fun m s => m_l_toItemS_l1 N p0 m s.2.1 s.2.2.2 = some r ∧ (OSl OTItem 171 3 s.1 s.2.2.1 v1 s.2.1) ∧ (RSl RTItem 3 s.1 pG0 pv0 p0)) (fun s hm => none_ne (show (none : Option ((List TItem))) = some r from hm.1)) (fun n1 ih1 s hm => ?_) N (Φ_1, x1, [], 0) ⟨h, h1, ph0⟩
  obtain ⟨Φ_2, s1, D2, s2⟩ := s
  obtain ⟨h, k1, ph0⟩ := hm
  replace h : m_l_toItemS_l1 N p0 (n1 + 1) s1 s2 = some r := h
  replace k1 : OSl OTItem 171 3 Φ_2 D2 v1 s1 := k1
  replace ph0 : RSl RTItem 3 Φ_2 pG0 pv0 p0 := ph0
  show WT _ _ [(0, pv0), (3, v1), (4, .int .i64 s2)] (St w0 Φ_2 [] [D2, ob v1])
  unfold m_l_toItemS_l1 at h
  refine WT.seq ?_
  refine WT.seq ?_
  refine WT.region ?_
  refine lq (q_move rfl) rfl ?_
  refine lq (q_move rfl) rfl ?_
  refine lq (q_lenR Sl_38 rfl rfl ph0) rfl ?_
  refine lq (q_lss rfl rfl) rfl ?_
  refine WL.nil ?_
  refine WT.cond rfl (fun c1 => ?_) (fun c1 => ?_)
  · replace h := ite_t h c1
    refine WT.skip ?_
    refine WT.seq ?_
    refine WT.block ?_
    refine WT.region ?_
    refine lq (q_move rfl) rfl ?_
    refine lq (q_move rfl) rfl ?_
    refine lq (q_move rfl) rfl ?_
    refine lq (q_move rfl) rfl ?_
    obtain ⟨x2, hx2, h⟩ := bind_some h
    obtain ⟨cs1, F1, -, g1, hb1, hs1, r1⟩ := ph0.el (idx_some hx2).2.2
    obtain ⟨v2, G1, rfl, hq1, h2⟩ := r1
    obtain rfl := hq1.symm
    refine lq (q_indexAddr Sl_38 rfl rfl ph0 hx2) rfl ?_
    refine lq (q_loadN Tn_169 rfl (fun w1 hw => (g1.of_eq 0 3 rfl rfl : rg _ _ _ [.int .i64 x2.Id, .string x2.F.Kind, v2]).rangeAt hw.fro) rfl) rfl ?_
    obtain ⟨x3, hx3, h⟩ := bind_some h
    refine lc (k_call (js := []) (R := [D2, ob v1]) Fun_108 rfl rfl (fun w1 hw ap hl => m_l_toItem_ok hw.fro N x2 h2  hx3)) rfl (fun v3 Φ_3 F2 q2 => ?_)
    obtain ⟨ap1, fr2, v4, rfl, rfl, h3⟩ := q2
    replace ph0 := ph0.frame RTItem.lasts fr2 (ap1.o pa0)
    replace k1 := k1.frame OTItem.lasts fr2 (ap1.r (i := 1) rfl) (ap1.r (i := 0) rfl)
    obtain ⟨x4, hx4, h⟩ := bind_some h
    obtain ⟨cs2, F3, -, g2, hb2, hs2, r2⟩ := k1.elS (idx_some hx4).2.2
    obtain ⟨v5, rfl, rfl, h4⟩ := r2
    have h5 := h4.rsl
    refine lq (q_indexAddr Sl_53 rfl rfl k1.rsl hx4) rfl ?_
    have r3 : OTItem Φ_3 ((ob v4 ++ [])) [.int .i64 x3.Id, .string x3.F.Kind, v4] x3 := ⟨v4, rfl, rfl, h3⟩
    refine lu (u_setO (js := [2]) (Rr := [ob v4, D2]) (vs := [.int .i64 x3.Id, .string x3.F.Kind, v4]) (x' := x3) OTItem.lasts Sz_171 rfl rfl rfl rfl ⟨rfl, rfl, h3.one, trivial⟩ rfl k1 (idx_lt hx4) r3 (OTItem.knows _ _ _ _ r3) (fun ap => (ap.r (i := 1) rfl)) (fun ap => by simpa [ob_nil] using (ap.r (i := 0) rfl))) rfl (fun Φ_4 D3 q3 => ?_)
    obtain ⟨⟨ap2, fr3⟩, sp1, h6⟩ := q3
    replace ph0 := ph0.frame RTItem.lasts fr3 (ap2.o pa0)
    refine WL.conv (S' := St w0 Φ_4 [] [D3, ob v1]) (fun w1 hw => hw.merge (js := [2, 1]) rfl (by simpa [List.append_assoc, ob_nil] using sp1)) ?_
    refine WL.nil ?_
    refine WT.inBlock ?_
    refine WT.region ?_
    refine lq (q_move rfl) rfl ?_
    refine lq (q_add rfl rfl) rfl ?_
    refine lq (q_assign rfl) rfl ?_
    refine WL.nil ?_
    refine WT.inLoop (WT.mono (l' := [(0, pv0), (3, v1), (4, .int .i64 (IntKind.i64.wrap (s2 + 1)))]) (S' := St w0 Φ_4 [] [D3, ob v1]) ⟨rfl, rfl, rfl, trivial⟩ (fun w1 hw => (hw.sel (js := [0, 0]) rfl).selO (js := []) rfl) ?_)
    exact ih1 (Φ_4, (s1.set s2.toNat x3), D3, IntKind.i64.wrap (s2 + 1)) ⟨h, h6, ph0⟩
  replace h := ite_f h c1
  refine WT.exit rfl ?_
  refine WT.seq ?_
  refine WT.region ?_
  refine lq (q_move rfl) rfl ?_
  refine lq (q_assign rfl) rfl ?_
  refine WL.nil ?_
  refine WT.ret Try.func57 (resOk.one rfl) (fun w1 hw => ?_)
  subst hb0
  cases h
  refine postG_of_St (js := [1, 0]) hw rfl ⟨v1, D2, rfl, rfl, k1⟩
theorem m_l_toStore_ok {Φ : Hp} {w : World} (hΦ : In Φ w) (N : Nat) (p0 : TStore) {pv0_0 : Value} {pG0_0 : List Nat} (ph0_0 : RSl RTItem 3 Φ pG0_0 pv0_0 p0.Items) {r : TStore} (h : m_l_toStore N p0 = some r) :
    Calls Try.prog 15 [.agg [pv0_0, .int .i64 p0.Next].toArray].toArray w (PostG Φ w [] (fun Φ' Fs v => ∃ (sr_0_0 : Value) (Dr_0_0 : List Nat), v = .agg [sr_0_0, .int .i64 r.Next].toArray ∧ Fs = [ob sr_0_0, Dr_0_0] ∧ OSl OTItem 171 3 Φ' Dr_0_0 sr_0_0 r.Items)) := by
  refine enter Try.func15 rfl Try.ntmps15 rfl (St.start0 hΦ) ?_
  have pa0_0 : Old ⟨w, [], Φ⟩ pG0_0 := Old.mk hΦ ph0_0.kn (Dj.empty _)
  unfold m_l_toStore at h
  refine WT.seq ?_
  refine WT.region ?_
  refine ln (n_box (C := #[pv0_0, .int .i64 p0.Next]) rfl rfl) rfl (fun b_1 => ?_)
  refine ln (n_alloc (C := #[.slice none 0 0, .int .i64 0]) Zr_55 rfl) rfl (fun b_2 => ?_)
  refine WL.nil ?_
  refine WT.seq ?_
  refine WT.region ?_
  refine ln (n_alloc (C := #[.slice none 0 0, .int .i64 0]) Zr_55 rfl) rfl (fun b_3 => ?_)
  refine WL.nil ?_
  refine WT.seq ?_
  refine WT.region ?_
  refine lq (q_fieldAddr Fld_40_0 rfl) rfl ?_
  refine lq (q_load1 T1_38 rfl (fun w1 hw => hw.rgO (i := 2) rfl 0 1 [pv0_0] rfl)) rfl ?_
  obtain ⟨x1, hx1, h⟩ := bind_some h
  refine lc (k_call (js := []) (R := []) Fun_57 rfl rfl (fun w1 hw ap hl => m_l_toItemS_ok hw.fro N p0.Items ph0_0  hx1)) rfl (fun v1 Φ_1 F1 q1 => ?_)
  obtain ⟨ap1, fr1, v2, D1, rfl, rfl, h1⟩ := q1
  replace ph0_0 := ph0_0.frame RTItem.lasts fr1 (ap1.o pa0_0)
  refine lq (q_fieldAddr Fld_55_0 rfl) rfl ?_
  refine ls (s_store (i := 0) (vs := [v1]) (C' := [v1, .int .i64 0]) (O' := [(b_3, .cells #[v1, .int .i64 0] 55 (0, 0)), (b_2, .cells #[.slice none 0 0, .int .i64 0] 55 (0, 0)), (b_1, .cells #[pv0_0, .int .i64 p0.Next] 40 (0, 0))]) Sz_53 rfl rfl rfl (one_cells h1.one) rfl rfl ⟨h1.one, trivial⟩ rfl rfl) rfl ?_
  refine WL.nil ?_
  refine WT.seq ?_
  refine WT.region ?_
  refine lq (q_fieldAddr Fld_40_1 rfl) rfl ?_
  refine lq (q_load1 T1_3 rfl (fun w1 hw => hw.rgO (i := 2) rfl 1 1 [.int .i64 p0.Next] rfl)) rfl ?_
  refine lq (q_fieldAddr Fld_55_1 rfl) rfl ?_
  refine ls (s_store (i := 0) (vs := [.int .i64 p0.Next]) (C' := [v1, .int .i64 p0.Next]) (O' := [(b_3, .cells #[v1, .int .i64 p0.Next] 55 (0, 0)), (b_2, .cells #[.slice none 0 0, .int .i64 0] 55 (0, 0)), (b_1, .cells #[pv0_0, .int .i64 p0.Next] 40 (0, 0))]) Sz_3 rfl rfl rfl rfl rfl rfl ⟨rfl, trivial⟩ rfl rfl) rfl ?_
  refine WL.nil ?_
  refine WT.seq ?_
  refine WT.region ?_
  refine lq (q_loadN Tn_55 rfl (fun w1 hw => hw.rgO (i := 0) rfl 0 2 [v1, .int .i64 p0.Next] rfl) rfl) rfl ?_
  refine ls (s_store (i := 1) (vs := [v1, .int .i64 p0.Next]) (C' := [v1, .int .i64 p0.Next]) (O' := [(b_3, .cells #[v1, .int .i64 p0.Next] 55 (0, 0)), (b_2, .cells #[v1, .int .i64 p0.Next] 55 (0, 0)), (b_1, .cells #[pv0_0, .int .i64 p0.Next] 40 (0, 0))]) Sz_55 rfl rfl rfl rfl rfl rfl ⟨h1.one, rfl, trivial⟩ rfl rfl) rfl ?_
  refine WL.nil ?_
  refine WT.ret Try.func15 (resOk.one (rv_cell Tn_55 rfl (fun w1 hw => hw.rgO (i := 1) rfl 0 2 [v1, .int .i64 p0.Next] rfl) rfl)) (fun w1 hw => ?_)
  cases h
  refine postG_of_St (js := [0, 0]) hw rfl ⟨v1, D1, rfl, rfl, h1⟩
theorem m_l_toIntS_ok {Φ : Hp} {w : World} (hΦ : In Φ w) (N : Nat) (p0 : (List Int)) {pv0 : Value} {pG0 : List Nat} (ph0 : RSl (RI .i64) 1 Φ pG0 pv0 p0) {r : (List Int)} (h : m_l_toIntS N p0 = some r) :
    Calls Try.prog 16 [pv0].toArray w (PostG Φ w [] (fun Φ' Fs v => ∃ (sr_0_0 : Value), v = sr_0_0 ∧ Fs = [ob sr_0_0] ∧ OSl (RI .i64) 3 1 Φ' [] sr_0_0 r)) := by
  refine enter Try.func16 rfl Try.ntmps16 rfl (St.start0 hΦ) ?_
  have pa0 : Old ⟨w, [], Φ⟩ pG0 := Old.mk hΦ ph0.kn (Dj.empty _)
  revert pa0
  generalize hb0 : (⟨w, [], Φ⟩ : Base) = w0
  intro pa0
  unfold m_l_toIntS at h
  refine WT.seq ?_
  refine WT.region ?_
  refine lq (q_assign rfl) rfl ?_
  refine WL.nil ?_
  refine WT.seq ?_
  refine WT.region ?_
  refine lq (q_move rfl) rfl ?_
  refine lq (q_lenR Sl_41 rfl rfl ph0) rfl ?_
  obtain ⟨x1, hx1, h⟩ := bind_some h
  refine le' (e_make (R := (RI .i64)) Sl_41 Zr_3 By_3 rfl rfl rfl (fun _ => ⟨rfl, rfl⟩) rfl rfl (Int.le_refl _) hx1 (mk_le hx1)) rfl (fun v1 Φ_1 D1 q1 => ?_)
  obtain ⟨fr1, h1⟩ := q1
  replace ph0 := ph0.frame RI.lasts fr1 (Dj.empty _)
  refine lq (q_assign rfl) rfl ?_
  refine WL.nil ?_
  refine WT.seq ?_
  refine WT.seq ?_
  refine WT.region ?_
  refine lq (q_assign rfl) rfl ?_
  refine WL.nil ?_
  refine WT.block ?_
  refine WT.loop ?_
  refine WT.mono (l' := [(0, pv0), (3, v1), (4, .int .i64 0)]) (S' := St w0 Φ_1 [] [ob v1]) ⟨rfl, rfl, rfl, trivial⟩ (fun w1 hw => (hw.sel (js := [0]) rfl).selO (js := []) rfl) ?_
  refine loop_ind (σ := Hp × (List Int) × Int) (fun s => [(0, pv0), (3, v1), (4, .int .i64 s.2.2)]) (fun s => St w0 s.1 [] [ob v1]) (fun m s => m_l_toIntS_l1 N p0 m s.2.1 s.2.2 = some r ∧ (OSl (RI .i64) 3 1 s.1 [] v1 s.2.1) ∧ (RSl (RI .i64) 1 s.1 pG0 pv0 p0)) (fun s hm => none_ne (show (none : Option ((List Int))) = some r from hm.1)) (fun n1 ih1 s hm => ?_) N (Φ_1, x1, 0) ⟨h, h1, ph0⟩
  obtain ⟨Φ_2, s1, s2⟩ := s
  obtain ⟨h, k1, ph0⟩ := hm
  replace h : m_l_toIntS_l1 N p0 (n1 + 1) s1 s2 = some r := h
  replace k1 : OSl (RI .i64) 3 1 Φ_2 [] v1 s1 := k1
  replace ph0 : RSl (RI .i64) 1 Φ_2 pG0 pv0 p0 := ph0
  show WT _ _ [(0, pv0), (3, v1), (4, .int .i64 s2)] (St w0 Φ_2 [] [ob v1])
  unfold m_l_toIntS_l1 at h
  refine WT.seq ?_
  refine WT.seq ?_
  refine WT.region ?_
  refine lq (q_move rfl) rfl ?_
  refine lq (q_move rfl) rfl ?_
  refine lq (q_lenR Sl_41 rfl rfl ph0) rfl ?_
  refine lq (q_lss rfl rfl) rfl ?_
  refine WL.nil ?_
  refine WT.cond rfl (fun c1 => ?_) (fun c1 => ?_)
  · replace h := ite_t h c1
    refine WT.skip ?_
    refine WT.seq ?_
    refine WT.block ?_
    refine WT.region ?_
    refine lq (q_move rfl) rfl ?_
    refine lq (q_move rfl) rfl ?_
    refine lq (q_move rfl) rfl ?_
    refine lq (q_move rfl) rfl ?_
    obtain ⟨x2, hx2, h⟩ := bind_some h
    obtain ⟨cs1, F1, -, g1, hb1, hs1, r1⟩ := ph0.el (idx_some hx2).2.2
    obtain ⟨rfl, -⟩ := r1
    refine lq (q_indexAddr Sl_41 rfl rfl ph0 hx2) rfl ?_
    refine lq (q_load1 T1_3 rfl (fun w1 hw => (g1.of_eq 0 1 rfl rfl : rg _ _ _ [.int .i64 x2]).rangeAt hw.fro)) rfl ?_
    obtain ⟨x3, hx3, h⟩ := bind_some h
    obtain ⟨cs2, F2, -, g2, hb2, hs2, r2⟩ := k1.elS (idx_some hx3).2.2
    obtain ⟨rfl, -⟩ := r2
    refine lq (q_indexAddr Sl_41 rfl rfl k1.rsl hx3) rfl ?_
    refine lu (u_setF (js := [0]) (Rr := []) (vs := [.int .i64 x2]) (x' := x2) RI.lasts RI.flat Sz_3 rfl rfl rfl rfl ⟨rfl, trivial⟩ rfl k1 (idx_lt hx3) ⟨rfl, rfl⟩) rfl (fun Φ_3 D2 q2 => ?_)
    obtain ⟨⟨ap1, fr2⟩, h2⟩ := q2
    replace ph0 := ph0.frame RI.lasts fr2 (ap1.o pa0)
    refine WL.nil ?_
    refine WT.inBlock ?_
    refine WT.region ?_
    refine lq (q_move rfl) rfl ?_
    refine lq (q_add rfl rfl) rfl ?_
    refine lq (q_assign rfl) rfl ?_
    refine WL.nil ?_
    refine WT.inLoop (WT.mono (l' := [(0, pv0), (3, v1), (4, .int .i64 (IntKind.i64.wrap (s2 + 1)))]) (S' := St w0 Φ_3 [] [ob v1]) ⟨rfl, rfl, rfl, trivial⟩ (fun w1 hw => (hw.sel (js := [0]) rfl).selO (js := []) rfl) ?_)
    exact ih1 (Φ_3, (s1.set s2.toNat x2), IntKind.i64.wrap (s2 + 1)) ⟨h, h2, ph0⟩
  replace h := ite_f h c1
  refine WT.exit rfl ?_
  refine WT.seq ?_
  refine WT.region ?_
  refine lq (q_move rfl) rfl ?_
  refine lq (q_assign rfl) rfl ?_
  refine WL.nil ?_
  refine WT.ret Try.func16 (resOk.one rfl) (fun w1 hw => ?_)
  subst hb0
  cases h
  refine postG_of_St (js := [0]) hw rfl ⟨v1, rfl, rfl, k1⟩
theorem m_i_pats_ok {Φ : Hp} {w : World} (hΦ : In Φ w) (N : Nat) (p0 : TRule) (p1 : Bool) {pv0_0 : Value} {pG0_0 : List Nat} {pv0_1 : Value} {pG0_1 : List Nat} {pv0_2 : Value} {pG0_2 : List Nat} (ph0_0 : RSl RTPat 3 Φ pG0_0 pv0_0 p0.Pats) (ph0_1 : RSl RTCond 11 Φ pG0_1 pv0_1 p0.Conds) (ph0_2 : RSl RTAct 5 Φ pG0_2 pv0_2 p0.Acts) {r : (List TPat)} (h : m_i_pats N p0 p1 = some r) :
    Calls Try.prog 58 [.agg [.string p0.Name, .int .i64 p0.Sal, pv0_0, pv0_1, pv0_2].toArray, .bool p1].toArray w (PostG Φ w [] (fun Φ' Fs v => ∃ (sr_0_0 : Value) (Dr_0_0 : List Nat), v = sr_0_0 ∧ Fs = [ob sr_0_0] ∧ OSl RTPat 94 3 Φ' Dr_0_0 sr_0_0 r ∧ (∀ k ∈ Dr_0_0, k ∈ pG0_0))) := by
  refine enter Try.func58 rfl Try.ntmps58 rfl (St.start0 hΦ) ?_
  have pa0_0 : Old ⟨w, [], Φ⟩ pG0_0 := Old.mk hΦ ph0_0.kn (Dj.empty _)
  revert pa0_0
  generalize hb0 : (⟨w, [], Φ⟩ : Base) = w0
  intro pa0_0
  unfold m_i_pats at h
  refine WT.seq ?_
  refine WT.region ?_
  refine ln (n_box (C := #[.string p0.Name, .int .i64 p0.Sal, pv0_0, pv0_1, pv0_2]) rfl rfl) rfl (fun b_1 => ?_)
  refine lq (q_assign rfl) rfl ?_
  refine WL.nil ?_
  refine WT.seq ?_
  refine WT.region ?_
  refine lq (q_assign rfl) rfl ?_
  refine WL.nil ?_
  refine WT.seq ?_
  refine WT.seq ?_
  refine WT.region ?_
  refine lq (q_fieldAddr Fld_51_2 rfl) rfl ?_
  refine lq (q_load1 T1_47 rfl (fun w1 hw => hw.rgO (i := 0) rfl 2 1 [pv0_0] rfl)) rfl ?_
  refine lq (q_lenR Sl_47 rfl rfl ph0_0) rfl ?_
  refine lq (q_move rfl) rfl ?_
  refine WL.nil ?_
  refine WT.block ?_
  refine WT.loop ?_
  refine WT.conv (S' := St w0 Φ [(b_1, .cells #[.string p0.Name, .int .i64 p0.Sal, pv0_0, pv0_1, pv0_2] 51 (0, 0))] (ob (.slice none 0 0) :: [])) (fun w1 hw => hw.addNil) ?_
  have k1 := OSl.nil RTPat 94 3 Φ
  refine WT.mono (l' := [(1, .bool p1), (5, (.slice none 0 0)), (9, pv0_0), (10, .int .i64 (p0.Pats.length : Int)), (11, .int .i64 0)]) (S' := St w0 Φ [] [ob (.slice none 0 0)]) ⟨rfl, rfl, rfl, rfl, rfl, trivial⟩ (fun w1 hw => (hw.sel (js := [0]) rfl).selO (js := []) rfl) ?_
  refine loop_ind (σ := Hp × (List TPat) × Value × List Nat × Int) (fun s => [(1, .bool p1), (5, s.2.2.1), (9, pv0_0), (10, .int .i64 (p0.Pats.length : Int)), (11, .int .i64 s.2.2.2.2)]) (fun s => St w0 s.1 [] [ob s.2.2.1]) (fun m s => m_i_pats_l1 N p0 p1 m s.2.1 s.2.2.2.2 = some r ∧ (OSl RTPat 94 3 s.1 s.2.2.2.1 s.2.2.1 s.2.1) ∧ (∀ k ∈ s.2.2.2.1, k ∈ pG0_0) ∧ (RSl RTPat 3 s.1 pG0_0 pv0_0 p0.Pats)) (fun s hm => none_ne (show (none : Option ((List TPat))) = some r from hm.1)) (fun n1 ih1 s hm => ?_) N (Φ, ([] : List TPat), (.slice none 0 0), [], 0) ⟨h, k1, (by simp), ph0_0⟩
  obtain ⟨Φ_1, s1, u1, D1, s2⟩ := s
  obtain ⟨h, k2, i1, ph0_0⟩ := hm
  replace h : m_i_pats_l1 N p0 p1 (n1 + 1) s1 s2 = some r := h
  replace k2 : OSl RTPat 94 3 Φ_1 D1 u1 s1 := k2
  replace i1 : ∀ k ∈ D1, k ∈ pG0_0 := i1
  replace ph0_0 : RSl RTPat 3 Φ_1 pG0_0 pv0_0 p0.Pats := ph0_0
  show WT _ _ [(1, .bool p1), (5, u1), (9, pv0_0), (10, .int .i64 (p0.Pats.length : Int)), (11, .int .i64 s2)] (St w0 Φ_1 [] [ob u1])
  unfold m_i_pats_l1 at h
  refine WT.seq ?_
  refine WT.region ?_
  refine lq (q_lss rfl rfl) rfl ?_
  refine WL.nil ?_
  refine WT.seq ?_
  refine WT.cond rfl (fun c1 => ?_) (fun c1 => ?_)
  · replace h := ite_t h c1
    refine WT.skip ?_
    refine WT.seq ?_
    refine WT.block ?_
    refine WT.seq ?_
    refine WT.region ?_
    obtain ⟨x1, hx1, h⟩ := bind_some h
    obtain ⟨cs1, F1, -, g1, hb1, hs1, r1⟩ := ph0_0.el (idx_some hx1).2.2
    obtain ⟨v1, G1, rfl, hq1, h1⟩ := r1
    obtain rfl := hq1.symm
    refine lq (q_indexAddr Sl_47 rfl rfl ph0_0 hx1) rfl ?_
    refine lq (q_loadN Tn_94 rfl (fun w1 hw => (g1.of_eq 0 3 rfl rfl : rg _ _ _ [.string x1.Kind, v1, .bool x1.Not]).rangeAt hw.fro) rfl) rfl ?_
    refine ln (n_alloc (C := #[.string (⟨#[]⟩ : ByteArray), .slice none 0 0, .bool false]) Zr_94 rfl) rfl (fun b_2 => ?_)
    refine ls (s_store (i := 0) (vs := [.string x1.Kind, v1, .bool x1.Not]) (C' := [.string x1.Kind, v1, .bool x1.Not]) (O' := [(b_2, .cells #[.string x1.Kind, v1, .bool x1.Not] 94 (0, 0))]) Sz_94 rfl rfl rfl rfl rfl rfl ⟨rfl, h1.one, rfl, trivial⟩ rfl rfl) rfl ?_
    refine WL.nil ?_
    refine WT.seq ?_
    refine WT.region ?_
    refine lq (q_fieldAddr Fld_94_2 rfl) rfl ?_
    refine lq (q_load1 T1_4 rfl (fun w1 hw => hw.rgO (i := 0) rfl 2 1 [.bool x1.Not] rfl)) rfl ?_
    refine lq (q_move rfl) rfl ?_
    refine lq (q_beq Bo_4 rfl rfl) rfl ?_
    refine WL.nil ?_
    refine WT.cond rfl (fun c2 => ?_) (fun c2 => ?_)
    · replace h := ite_t h c2
      refine WT.region ?_
      refine lq (q_move rfl) rfl ?_
      refine lq (q_loadN Tn_94 rfl (fun w1 hw => hw.rgO (i := 0) rfl 0 3 [.string x1.Kind, v1, .bool x1.Not] rfl) rfl) rfl ?_
      have rc1 : RC RTPat 3 Φ_1 ([G1] : List (List Nat)) [.string x1.Kind, v1, .bool x1.Not] ([x1] : List TPat) := RC.cons (c := [.string x1.Kind, v1, .bool x1.Not]) (cells := []) ⟨v1, G1, rfl, rfl, h1⟩ rfl (RC.nil _ _ _)
      refine le' (e_lit (vs := [(0, .agg [.string x1.Kind, v1, .bool x1.Not].toArray)]) (C := #[.string x1.Kind, v1, .bool x1.Not]) RTPat.lasts Sl_47 Zr_94 rfl rfl rfl rfl (fill_made MC_94_1 (fill_cons (cells := [.string ⟨#[]⟩, .slice none 0 0, .bool false]) (c := [.string x1.Kind, v1, .bool x1.Not]) (C' := [.string x1.Kind, v1, .bool x1.Not]) rfl rfl rfl rfl rfl (fill_nil))) rfl rc1 rfl (RC.kn RTPat.knows rc1)) rfl (fun v2 Φ_2 D2 q1 => ?_)
      obtain ⟨fr1, h2⟩ := q1
      replace h2 : OSl RTPat 94 3 Φ_2 (G1) v2 ([x1] : List TPat) := by simpa [List.append_assoc] using h2
      replace ph0_0 := ph0_0.frame RTPat.lasts fr1 (Dj.empty _)
      replace k2 := k2.frame RTPat.lasts fr1 (Dj.empty _) (Dj.empty _)
      obtain ⟨x2, hx2, h⟩ := bind_some h
      refine le' (e_appO RTPat.lasts RTPat.one Sl_47 Ei_94 rfl rfl rfl rfl rfl (js := [1]) (Rr := [ob v2]) rfl k2 h2 (fun ap => (Dj.sub (ap.o pa0_0) i1)) (fun ap => (Dj.sub (Dj.sub (ap.o pa0_0) (fun k h => hs1 k h)) (fun k hk => (by simpa [List.append_assoc] using hk : k ∈ G1)))) hx2) rfl (fun v3 Φ_3 D3 q2 => ?_)
      obtain ⟨⟨ap1, fr2⟩, h3⟩ := q2
      replace ph0_0 := ph0_0.frame RTPat.lasts fr2 (ap1.o pa0_0)
      refine lq (q_assign rfl) rfl ?_
      refine WL.nil ?_
      refine WT.inBlock ?_
      refine WT.region ?_
      refine lq (q_add rfl rfl) rfl ?_
      refine lq (q_move rfl) rfl ?_
      refine WL.nil ?_
      refine WT.inLoop (WT.mono (l' := [(1, .bool p1), (5, v3), (9, pv0_0), (10, .int .i64 (p0.Pats.length : Int)), (11, .int .i64 (IntKind.i64.wrap (s2 + 1)))]) (S' := St w0 Φ_3 [] [ob v3]) ⟨rfl, rfl, rfl, rfl, rfl, trivial⟩ (fun w1 hw => (hw.sel (js := [0]) rfl).selO (js := []) rfl) ?_)
      exact ih1 (Φ_3, x2, v3, (D1 ++ (G1)), IntKind.i64.wrap (s2 + 1)) ⟨h, h3, (fun k hk => ((List.mem_append.1 hk).elim (fun h => (i1 k h)) (fun h => ((fun k h => hs1 k h) k ((fun k hk => (by simpa [List.append_assoc] using hk : k ∈ G1)) k h))))), ph0_0⟩
    replace h := ite_f h c2
    refine WT.skip ?_
    refine WT.inBlock ?_
    refine WT.region ?_
    refine lq (q_add rfl rfl) rfl ?_
    refine lq (q_move rfl) rfl ?_
    refine WL.nil ?_
    refine WT.inLoop (WT.mono (l' := [(1, .bool p1), (5, u1), (9, pv0_0), (10, .int .i64 (p0.Pats.length : Int)), (11, .int .i64 (IntKind.i64.wrap (s2 + 1)))]) (S' := St w0 Φ_1 [] [ob u1]) ⟨rfl, rfl, rfl, rfl, rfl, trivial⟩ (fun w1 hw => (hw.sel (js := [0]) rfl).selO (js := []) rfl) ?_)
    exact ih1 (Φ_1, s1, u1, D1, IntKind.i64.wrap (s2 + 1)) ⟨h, k2, (fun k hk => (i1 k hk)), ph0_0⟩
  replace h := ite_f h c1
  refine WT.exit rfl ?_
  refine WT.seq ?_
  refine WT.region ?_
  refine lq (q_move rfl) rfl ?_
  refine lq (q_assign rfl) rfl ?_
  refine WL.nil ?_
  refine WT.ret Try.func58 (resOk.one rfl) (fun w1 hw => ?_)
  subst hb0
  cases h
  refine postG_of_St (js := [0]) hw rfl ⟨u1, D1, rfl, rfl, k2, (fun k hk => (i1 k hk))⟩
theorem m_sl_Clone_Si_Val_i_Val_ok {Φ : Hp} {w : World} (hΦ : In Φ w) (N : Nat) (p0 : (List TVal)) {pv0 : Value} {pG0 : List Nat} (ph0 : RSl RTVal 3 Φ pG0 pv0 p0) {r : (List TVal)} (h : m_sl_Clone_Si_Val_i_Val N p0 = some r) :
    Calls Try.prog 175 [pv0].toArray w (PostG Φ w [] (fun Φ' Fs v => ∃ (sr_0_0 : Value), v = sr_0_0 ∧ Fs = [ob sr_0_0] ∧ OSl RTVal 109 3 Φ' [] sr_0_0 r)) := by
  refine enter Try.func175 rfl Try.ntmps175 rfl (St.start0 hΦ) ?_
  unfold m_sl_Clone_Si_Val_i_Val at h
  refine WT.seq ?_
  refine WT.region ?_
  refine lq (q_assign rfl) rfl ?_
  refine WL.nil ?_
  refine WT.seq ?_
  refine WT.seq ?_
  rcases RSl.nilOr ph0 with ⟨hxs1, cc1, hv1⟩ | ⟨a1, cc1, hv1⟩
  · skip
    replace h : some [] = some r := by simpa [hxs1, app] using h
    refine WT.region ?_
    refine lq (q_move rfl) rfl ?_
    refine lq (q_eqNil Sl_95 (congrArg some hv1) rfl) rfl ?_
    refine WL.nil ?_
    refine WT.cond rfl (fun c => ?_) (fun c => by simp at c)
    refine WT.seq ?_
    refine WT.region ?_
    refine lq (q_assign rfl) rfl ?_
    refine WL.nil ?_
    refine WT.ret Try.func175 (resOk.one rfl) (fun w1 hw => ?_)
    cases h
    replace hw := hw.addNil
    refine postG_of_St (js := [0]) hw rfl ⟨.slice none 0 0, rfl, rfl, OSl.nil _ _ _ _⟩
  refine WT.region ?_
  refine lq (q_move rfl) rfl ?_
  refine lq (q_eqNil Sl_95 (congrArg some hv1) rfl) rfl ?_
  refine WL.nil ?_
  refine WT.cond rfl (fun c => by simp at c) (fun c => ?_)
  refine WT.skip ?_
  refine WT.seq ?_
  refine WT.region ?_
  have rc1 : RC RTVal 3 Φ ([] : List (List Nat)) [] ([] : List TVal) := RC.nil _ _ _
  refine le' (e_lit (vs := []) (C := #[]) RTVal.lasts Sl_95 Zr_109 rfl rfl rfl rfl (fill_made MC_109_0 (fill_nil)) rfl rc1 rfl (by simpa using Kw.nil)) rfl (fun v1 Φ_1 D1 q1 => ?_)
  obtain ⟨fr1, h1⟩ := q1
  replace h1 : OSl RTVal 109 3 Φ_1 [] v1 ([] : List TVal) := by simpa using h1
  replace ph0 := ph0.frame RTVal.lasts fr1 (Dj.empty _)
  refine lq (q_move rfl) rfl ?_
  obtain ⟨x1, hx1, h⟩ := bind_some h
  refine le' (e_appF RTVal.lasts RTVal.one RTVal.flat Sl_95 Ei_109 rfl rfl rfl rfl rfl (js := [0]) (Rr := []) rfl h1 ph0 hx1) rfl (fun v2 Φ_2 D2 q2 => ?_)
  obtain ⟨⟨ap1, fr2⟩, h2⟩ := q2
  refine lq (q_assign rfl) rfl ?_
  refine WL.nil ?_
  refine WT.ret Try.func175 (resOk.one rfl) (fun w1 hw => ?_)
  cases h
  refine postG_of_St (js := [0]) hw rfl ⟨v2, rfl, rfl, h2⟩
theorem m_i_copyFact_ok {Φ : Hp} {w : World} (hΦ : In Φ w) (N : Nat) (p0 : TFact) {pv0_0 : Value} {pG0_0 : List Nat} (ph0_0 : RSl RTVal 3 Φ pG0_0 pv0_0 p0.Fields) {r : TFact} (h : m_i_copyFact N p0 = some r) :
    Calls Try.prog 151 [.agg [.string p0.Kind, pv0_0].toArray].toArray w (PostG Φ w [] (fun Φ' Fs v => ∃ (sr_0_0 : Value), v = .agg [.string r.Kind, sr_0_0].toArray ∧ Fs = [ob sr_0_0] ∧ OSl RTVal 109 3 Φ' [] sr_0_0 r.Fields)) := by
  refine enter Try.func151 rfl Try.ntmps151 rfl (St.start0 hΦ) ?_
  unfold m_i_copyFact at h
  refine WT.seq ?_
  refine WT.region ?_
  refine ln (n_box (C := #[.string p0.Kind, pv0_0]) rfl rfl) rfl (fun b_1 => ?_)
  refine ln (n_alloc (C := #[.string (⟨#[]⟩ : ByteArray), .slice none 0 0]) Zr_97 rfl) rfl (fun b_2 => ?_)
  refine WL.nil ?_
  refine WT.seq ?_
  refine WT.mix (Kn Φ [] [(b_2, .cells #[.string (⟨#[]⟩ : ByteArray), .slice none 0 0] 97 (0, 0)), (b_1, .cells #[.string p0.Kind, pv0_0] 97 (0, 0))]) (fun i => match i with | 6 => false | _ => true) mixed (fun _ h => h.drew) ?_
  refine mq 0 rfl (by kernel_rfl) (fun w1 hw => Kn.of (fun k hk _ _ => by simp at hk) (AllIn.mem ⟨List.mem_of_getElem? (i := 0) rfl, List.mem_of_getElem? (i := 1) rfl, trivial⟩) hw) (q_fieldAddr Fld_97_0 rfl) rfl ?_
  refine mq 1 rfl (by kernel_rfl) (fun w1 hw => Kn.of (fun k hk _ _ => by simp at hk) (AllIn.mem ⟨List.mem_of_getElem? (i := 0) rfl, List.mem_of_getElem? (i := 1) rfl, trivial⟩) hw) (q_load1 T1_9 rfl (fun w1 hw => hw.rgO (i := 1) rfl 0 1 [.string p0.Kind] rfl)) rfl ?_
  refine mq 2 rfl (by kernel_rfl) (fun w1 hw => Kn.of (fun k hk _ _ => by simp at hk) (AllIn.mem ⟨List.mem_of_getElem? (i := 0) rfl, List.mem_of_getElem? (i := 1) rfl, trivial⟩) hw) (q_fieldAddr Fld_97_1 rfl) rfl ?_
  refine mq 3 rfl (by kernel_rfl) (fun w1 hw => Kn.of (fun k hk _ _ => by simp at hk) (AllIn.mem ⟨List.mem_of_getElem? (i := 0) rfl, List.mem_of_getElem? (i := 1) rfl, trivial⟩) hw) (q_load1 T1_95 rfl (fun w1 hw => hw.rgO (i := 1) rfl 1 1 [pv0_0] rfl)) rfl ?_
  obtain ⟨x1, hx1, h⟩ := bind_some h
  refine WM.one 4 (by kernel_rfl) (mc rfl (fun _ v Φx D w1 hq hw => Kn.of (fun k hk _ _ => by simp at hk) (AllIn.mem ⟨List.mem_of_getElem? (i := 0) rfl, List.mem_of_getElem? (i := 1) rfl, trivial⟩) hw) (k_call (js := []) (R := []) Fun_175 rfl rfl (fun w1 hw ap hl => m_sl_Clone_Si_Val_i_Val_ok hw.fro N p0.Fields ph0_0  hx1)) rfl (fun v1 Φ_1 F1 q1 => ?_))
  obtain ⟨ap1, fr1, v2, rfl, rfl, h1⟩ := q1
  refine mq 5 rfl (by kernel_rfl) (fun w1 hw => Kn.of (fun k hk _ _ => by simp at hk) (AllIn.mem ⟨List.mem_of_getElem? (i := 0) rfl, List.mem_of_getElem? (i := 1) rfl, trivial⟩) hw) (q_build (vs := [(0, .string p0.Kind), (1, v1)]) (C := #[.string p0.Kind, v1]) Pl_97 Zr_97 rfl (fill_cons (cells := [.string ⟨#[]⟩, .slice none 0 0]) (c := [.string p0.Kind]) (C' := [.string p0.Kind, .slice none 0 0]) rfl rfl rfl rfl rfl (fill_cons (cells := [.string p0.Kind, .slice none 0 0]) (c := [v1]) (C' := [.string p0.Kind, v1]) rfl (one_cells h1.one) rfl rfl rfl (fill_nil)))) rfl ?_
  refine WM.one 6 (by kernel_rfl) (ms rfl (fun hc => by cases hc) (s_store (i := 0) (vs := [.string p0.Kind, v1]) (C' := [.string p0.Kind, v1]) (O' := [(b_2, .cells #[.string p0.Kind, v1] 97 (0, 0)), (b_1, .cells #[.string p0.Kind, pv0_0] 97 (0, 0))]) Sz_97 rfl rfl rfl rfl rfl rfl ⟨rfl, h1.one, trivial⟩ rfl rfl) rfl ?_)
  refine WM.nil (by kernel_rfl) ?_
  refine WT.ret Try.func151 (resOk.one (rv_cell Tn_97 rfl (fun w1 hw => hw.rgO (i := 0) rfl 0 2 [.string p0.Kind, v1] rfl) rfl)) (fun w1 hw => ?_)
  cases h
  refine postG_of_St (js := [0]) hw rfl ⟨v1, rfl, rfl, h1⟩
theorem m_i_FactOf_ok {Φ : Hp} {w : World} (hΦ : In Φ w) (N : Nat) (p0 : TStore) (p1 : Int) {pv0_0 : Value} {pG0_0 : List Nat} (ph0_0 : RSl RTItem 3 Φ pG0_0 pv0_0 p0.Items) {r : TFact × Bool} (h : m_i_FactOf N p0 p1 = some r) :
    Calls Try.prog 109 [.agg [pv0_0, .int .i64 p0.Next].toArray, .int .i64 p1].toArray w (PostG Φ w [] (fun Φ' Fs v => ∃ (sr_0_0 : Value), v = .tuple #[.agg [.string r.1.Kind, sr_0_0].toArray, .bool r.2] ∧ Fs = [ob sr_0_0] ∧ OSl RTVal 109 3 Φ' [] sr_0_0 r.1.Fields)) := by
  refine enter Try.func109 rfl Try.ntmps109 rfl (St.start0 hΦ) ?_
  generalize hb0 : (⟨w, [], Φ⟩ : Base) = w0
  unfold m_i_FactOf at h
  refine WT.seq ?_
  refine WT.region ?_
  refine ln (n_box (C := #[pv0_0, .int .i64 p0.Next]) rfl rfl) rfl (fun b_1 => ?_)
  refine ln (n_alloc (C := #[.string (⟨#[]⟩ : ByteArray), .slice none 0 0]) Zr_97 rfl) rfl (fun b_2 => ?_)
  refine lq (q_assign rfl) rfl ?_
  refine WL.nil ?_
  refine WT.seq ?_
  refine WT.seq ?_
  refine WT.region ?_
  refine lq (q_fieldAddr Fld_55_0 rfl) rfl ?_
  refine lq (q_load1 T1_53 rfl (fun w1 hw => hw.rgO (i := 1) rfl 0 1 [pv0_0] rfl)) rfl ?_
  refine lq (q_lenR Sl_53 rfl rfl ph0_0) rfl ?_
  refine lq (q_move rfl) rfl ?_
  refine WL.nil ?_
  refine WT.block ?_
  refine WT.loop ?_
  refine WT.mono (l' := [(1, .int .i64 p1), (4, .pointer (some ⟨b_2, 0, none⟩)), (9, pv0_0), (10, .int .i64 (p0.Items.length : Int)), (11, .int .i64 0)]) (S' := St w0 Φ [(b_2, .cells #[.string (⟨#[]⟩ : ByteArray), .slice none 0 0] 97 (0, 0))] []) ⟨rfl, rfl, rfl, rfl, rfl, trivial⟩ (fun w1 hw => (hw.sel (js := []) rfl).selO (js := [0]) rfl) ?_
  refine loop_ind (σ := Int) (fun s => [(1, .int .i64 p1), (4, .pointer (some ⟨b_2, 0, none⟩)), (9, pv0_0), (10, .int .i64 (p0.Items.length : Int)), (11, .int .i64 s)]) (fun s => St w0 Φ [(b_2, .cells #[.string (⟨#[]⟩ : ByteArray), .slice none 0 0] 97 (0, 0))] []) (fun m s => m_i_FactOf_l1 N p0 p1 m s = some r) (fun s hm => none_ne (show (none : Option (TFact × Bool)) = some r from hm)) (fun n1 ih1 s hm => ?_) N (0) h
  revert hm; revert s; intro s1 hm
  have h : m_i_FactOf_l1 N p0 p1 (n1 + 1) s1 = some r := hm
  show WT _ _ [(1, .int .i64 p1), (4, .pointer (some ⟨b_2, 0, none⟩)), (9, pv0_0), (10, .int .i64 (p0.Items.length : Int)), (11, .int .i64 s1)] (St w0 Φ [(b_2, .cells #[.string (⟨#[]⟩ : ByteArray), .slice none 0 0] 97 (0, 0))] [])
  unfold m_i_FactOf_l1 at h
  refine WT.seq ?_
  refine WT.region ?_
  refine lq (q_lss rfl rfl) rfl ?_
  refine WL.nil ?_
  refine WT.seq ?_
  refine WT.cond rfl (fun c1 => ?_) (fun c1 => ?_)
  · replace h := ite_t h c1
    refine WT.skip ?_
    refine WT.seq ?_
    refine WT.block ?_
    refine WT.seq ?_
    refine WT.region ?_
    obtain ⟨x1, hx1, h⟩ := bind_some h
    obtain ⟨cs1, F1, -, g1, hb1, hs1, r1⟩ := ph0_0.el (idx_some hx1).2.2
    obtain ⟨v1, G1, rfl, hq1, h1⟩ := r1
    obtain rfl := hq1.symm
    refine lq (q_indexAddr Sl_53 rfl rfl ph0_0 hx1) rfl ?_
    refine lq (q_loadN Tn_171 rfl (fun w1 hw => (g1.of_eq 0 3 rfl rfl : rg _ _ _ [.int .i64 x1.Id, .string x1.F.Kind, v1]).rangeAt hw.fro) rfl) rfl ?_
    refine ln (n_alloc (C := #[.int .i64 0, .string (⟨#[]⟩ : ByteArray), .slice none 0 0]) Zr_171 rfl) rfl (fun b_3 => ?_)
    refine ls (s_store (i := 0) (vs := [.int .i64 x1.Id, .string x1.F.Kind, v1]) (C' := [.int .i64 x1.Id, .string x1.F.Kind, v1]) (O' := [(b_3, .cells #[.int .i64 x1.Id, .string x1.F.Kind, v1] 171 (0, 0)), (b_2, .cells #[.string (⟨#[]⟩ : ByteArray), .slice none 0 0] 97 (0, 0))]) Sz_171 rfl rfl rfl rfl rfl rfl ⟨rfl, rfl, h1.one, trivial⟩ rfl rfl) rfl ?_
    refine WL.nil ?_
    refine WT.seq ?_
    refine WT.region ?_
    refine lq (q_fieldAddr Fld_171_0 rfl) rfl ?_
    refine lq (q_load1 T1_3 rfl (fun w1 hw => hw.rgO (i := 0) rfl 0 1 [.int .i64 x1.Id] rfl)) rfl ?_
    refine lq (q_move rfl) rfl ?_
    refine lq (q_eql rfl rfl) rfl ?_
    refine WL.nil ?_
    refine WT.cond rfl (fun c2 => ?_) (fun c2 => ?_)
    · replace h := ite_t h c2
      refine WT.seq ?_
      refine WT.region ?_
      refine lq (q_fieldAddr Fld_171_1 rfl) rfl ?_
      refine lq (q_loadN Tn_97 rfl (fun w1 hw => hw.rgO (i := 0) rfl 1 2 [.string x1.F.Kind, v1] rfl) rfl) rfl ?_
      obtain ⟨x2, hx2, h⟩ := bind_some h
      refine lc (k_call (js := []) (R := []) Fun_151 rfl rfl (fun w1 hw ap hl => m_i_copyFact_ok hw.fro N x1.F h1  hx2)) rfl (fun v2 Φ_1 F2 q1 => ?_)
      obtain ⟨ap1, fr1, v3, rfl, rfl, h2⟩ := q1
      refine ls (s_store (i := 1) (vs := [.string x2.Kind, v3]) (C' := [.string x2.Kind, v3]) (O' := [(b_3, .cells #[.int .i64 x1.Id, .string x1.F.Kind, v1] 171 (0, 0)), (b_2, .cells #[.string x2.Kind, v3] 97 (0, 0))]) Sz_97 rfl rfl rfl rfl rfl rfl ⟨rfl, h2.one, trivial⟩ rfl rfl) rfl ?_
      refine lq (q_assign rfl) rfl ?_
      refine WL.nil ?_
      refine WT.ret Try.func109 (resOk.two (rv_cell Tn_97 rfl (fun w1 hw => hw.rgO (i := 1) rfl 0 2 [.string x2.Kind, v3] rfl) rfl) rfl) (fun w1 hw => ?_)
      subst hb0
      cases h
      refine postG_of_St (js := [0]) hw rfl ⟨v3, rfl, rfl, h2⟩
    replace h := ite_f h c2
    refine WT.skip ?_
    refine WT.inBlock ?_
    refine WT.region ?_
    refine lq (q_add rfl rfl) rfl ?_
    refine lq (q_move rfl) rfl ?_
    refine WL.nil ?_
    refine WT.inLoop (WT.mono (l' := [(1, .int .i64 p1), (4, .pointer (some ⟨b_2, 0, none⟩)), (9, pv0_0), (10, .int .i64 (p0.Items.length : Int)), (11, .int .i64 (IntKind.i64.wrap (s1 + 1)))]) (S' := St w0 Φ [(b_2, .cells #[.string (⟨#[]⟩ : ByteArray), .slice none 0 0] 97 (0, 0))] []) ⟨rfl, rfl, rfl, rfl, rfl, trivial⟩ (fun w1 hw => (hw.sel (js := []) rfl).selO (js := [1]) rfl) ?_)
    exact ih1 (IntKind.i64.wrap (s1 + 1)) h
  replace h := ite_f h c1
  refine WT.exit rfl ?_
  refine WT.seq ?_
  refine WT.region ?_
  refine lq (q_build (vs := []) (C := #[.string (⟨#[]⟩ : ByteArray), .slice none 0 0]) Pl_97 Zr_97 rfl (fill_nil)) rfl ?_
  refine ls (s_store (i := 0) (vs := [.string (⟨#[]⟩ : ByteArray), .slice none 0 0]) (C' := [.string (⟨#[]⟩ : ByteArray), .slice none 0 0]) (O' := [(b_2, .cells #[.string (⟨#[]⟩ : ByteArray), .slice none 0 0] 97 (0, 0))]) Sz_97 rfl rfl rfl rfl rfl rfl ⟨rfl, rfl, trivial⟩ rfl rfl) rfl ?_
  refine lq (q_assign rfl) rfl ?_
  refine WL.nil ?_
  refine WT.ret Try.func109 (resOk.two (rv_cell Tn_97 rfl (fun w1 hw => hw.rgO (i := 0) rfl 0 2 [.string (⟨#[]⟩ : ByteArray), .slice none 0 0] rfl) rfl) rfl) (fun w1 hw => ?_)
  subst hb0
  cases h
  replace hw := hw.addNil
  refine postG_of_St (js := [0]) hw rfl ⟨.slice none 0 0, rfl, rfl, OSl.nil _ _ _ _⟩
theorem m_sl_Clone_Si_Bind_i_Bind_ok {Φ : Hp} {w : World} (hΦ : In Φ w) (N : Nat) (p0 : (List TBind)) {pv0 : Value} {pG0 : List Nat} (ph0 : RSl RTBind 4 Φ pG0 pv0 p0) {r : (List TBind)} (h : m_sl_Clone_Si_Bind_i_Bind N p0 = some r) :
    Calls Try.prog 129 [pv0].toArray w (PostG Φ w [] (fun Φ' Fs v => ∃ (sr_0_0 : Value), v = sr_0_0 ∧ Fs = [ob sr_0_0] ∧ OSl RTBind 111 4 Φ' [] sr_0_0 r)) := by
  refine enter Try.func129 rfl Try.ntmps129 rfl (St.start0 hΦ) ?_
  unfold m_sl_Clone_Si_Bind_i_Bind at h
  refine WT.seq ?_
  refine WT.region ?_
  refine lq (q_assign rfl) rfl ?_
  refine WL.nil ?_
  refine WT.seq ?_
  refine WT.seq ?_
  rcases RSl.nilOr ph0 with ⟨hxs1, cc1, hv1⟩ | ⟨a1, cc1, hv1⟩
  · skip
    replace h : some [] = some r := by simpa [hxs1, app] using h
    refine WT.region ?_
    refine lq (q_move rfl) rfl ?_
    refine lq (q_eqNil Sl_44 (congrArg some hv1) rfl) rfl ?_
    refine WL.nil ?_
    refine WT.cond rfl (fun c => ?_) (fun c => by simp at c)
    refine WT.seq ?_
    refine WT.region ?_
    refine lq (q_assign rfl) rfl ?_
    refine WL.nil ?_
    refine WT.ret Try.func129 (resOk.one rfl) (fun w1 hw => ?_)
    cases h
    replace hw := hw.addNil
    refine postG_of_St (js := [0]) hw rfl ⟨.slice none 0 0, rfl, rfl, OSl.nil _ _ _ _⟩
  refine WT.region ?_
  refine lq (q_move rfl) rfl ?_
  refine lq (q_eqNil Sl_44 (congrArg some hv1) rfl) rfl ?_
  refine WL.nil ?_
  refine WT.cond rfl (fun c => by simp at c) (fun c => ?_)
  refine WT.skip ?_
  refine WT.seq ?_
  refine WT.region ?_
  have rc1 : RC RTBind 4 Φ ([] : List (List Nat)) [] ([] : List TBind) := RC.nil _ _ _
  refine le' (e_lit (vs := []) (C := #[]) RTBind.lasts Sl_44 Zr_111 rfl rfl rfl rfl (fill_made MC_111_0 (fill_nil)) rfl rc1 rfl (by simpa using Kw.nil)) rfl (fun v1 Φ_1 D1 q1 => ?_)
  obtain ⟨fr1, h1⟩ := q1
  replace h1 : OSl RTBind 111 4 Φ_1 [] v1 ([] : List TBind) := by simpa using h1
  replace ph0 := ph0.frame RTBind.lasts fr1 (Dj.empty _)
  refine lq (q_move rfl) rfl ?_
  obtain ⟨x1, hx1, h⟩ := bind_some h
  refine le' (e_appF RTBind.lasts RTBind.one RTBind.flat Sl_44 Ei_111 rfl rfl rfl rfl rfl (js := [0]) (Rr := []) rfl h1 ph0 hx1) rfl (fun v2 Φ_2 D2 q2 => ?_)
  obtain ⟨⟨ap1, fr2⟩, h2⟩ := q2
  refine lq (q_assign rfl) rfl ?_
  refine WL.nil ?_
  refine WT.ret Try.func129 (resOk.one rfl) (fun w1 hw => ?_)
  cases h
  refine postG_of_St (js := [0]) hw rfl ⟨v2, rfl, rfl, h2⟩
theorem m_i_BindOf_ok {Φ : Hp} {w : World} (hΦ : In Φ w) (N : Nat) (p0 : (List TBind)) (p1 : ByteArray) {pv0 : Value} {pG0 : List Nat} (ph0 : RSl RTBind 4 Φ pG0 pv0 p0) {r : TVal × Bool} (h : m_i_BindOf N p0 p1 = some r) :
    Calls Try.prog 152 [pv0, .string p1].toArray w (Post (.tuple #[.agg [.int .i64 r.1.K, .int .i64 r.1.N, .string r.1.S].toArray, .bool r.2]) w) := by
  refine enter Try.func152 rfl Try.ntmps152 rfl (St.start0 hΦ) ?_
  generalize hb0 : (⟨w, [], Φ⟩ : Base) = w0
  unfold m_i_BindOf at h
  refine WT.seq ?_
  refine WT.region ?_
  refine ln (n_alloc (C := #[.int .i64 0, .int .i64 0, .string (⟨#[]⟩ : ByteArray)]) Zr_109 rfl) rfl (fun b_1 => ?_)
  refine lq (q_assign rfl) rfl ?_
  refine WL.nil ?_
  refine WT.seq ?_
  refine WT.seq ?_
  refine WT.region ?_
  refine lq (q_move rfl) rfl ?_
  refine lq (q_lenR Sl_44 rfl rfl ph0) rfl ?_
  refine lq (q_move rfl) rfl ?_
  refine WL.nil ?_
  refine WT.block ?_
  refine WT.loop ?_
  refine WT.mono (l' := [(1, .string p1), (4, .pointer (some ⟨b_1, 0, none⟩)), (8, pv0), (9, .int .i64 (p0.length : Int)), (10, .int .i64 0)]) (S' := St w0 Φ [(b_1, .cells #[.int .i64 0, .int .i64 0, .string (⟨#[]⟩ : ByteArray)] 109 (0, 0))] []) ⟨rfl, rfl, rfl, rfl, rfl, trivial⟩ (fun w1 hw => (hw.sel (js := []) rfl).selO (js := [0]) rfl) ?_
  refine loop_ind (σ := Int) (fun s => [(1, .string p1), (4, .pointer (some ⟨b_1, 0, none⟩)), (8, pv0), (9, .int .i64 (p0.length : Int)), (10, .int .i64 s)]) (fun s => St w0 Φ [(b_1, .cells #[.int .i64 0, .int .i64 0, .string (⟨#[]⟩ : ByteArray)] 109 (0, 0))] []) (fun m s => m_i_BindOf_l1 N p0 p1 m s = some r) (fun s hm => none_ne (show (none : Option (TVal × Bool)) = some r from hm)) (fun n1 ih1 s hm => ?_) N (0) h
  revert hm; revert s; intro s1 hm
  have h : m_i_BindOf_l1 N p0 p1 (n1 + 1) s1 = some r := hm
  show WT _ _ [(1, .string p1), (4, .pointer (some ⟨b_1, 0, none⟩)), (8, pv0), (9, .int .i64 (p0.length : Int)), (10, .int .i64 s1)] (St w0 Φ [(b_1, .cells #[.int .i64 0, .int .i64 0, .string (⟨#[]⟩ : ByteArray)] 109 (0, 0))] [])
  unfold m_i_BindOf_l1 at h
  refine WT.seq ?_
  refine WT.region ?_
  refine lq (q_lss rfl rfl) rfl ?_
  refine WL.nil ?_
  refine WT.seq ?_
  refine WT.cond rfl (fun c1 => ?_) (fun c1 => ?_)
  · replace h := ite_t h c1
    refine WT.skip ?_
    refine WT.seq ?_
    refine WT.block ?_
    refine WT.seq ?_
    refine WT.region ?_
    obtain ⟨x1, hx1, h⟩ := bind_some h
    obtain ⟨cs1, F1, -, g1, hb1, hs1, r1⟩ := ph0.el (idx_some hx1).2.2
    obtain ⟨rfl, -⟩ := r1
    refine lq (q_indexAddr Sl_44 rfl rfl ph0 hx1) rfl ?_
    refine lq (q_loadN Tn_111 rfl (fun w1 hw => (g1.of_eq 0 4 rfl rfl : rg _ _ _ [.string x1.Name, .int .i64 x1.V.K, .int .i64 x1.V.N, .string x1.V.S]).rangeAt hw.fro) rfl) rfl ?_
    refine ln (n_alloc (C := #[.string (⟨#[]⟩ : ByteArray), .int .i64 0, .int .i64 0, .string (⟨#[]⟩ : ByteArray)]) Zr_111 rfl) rfl (fun b_2 => ?_)
    refine ls (s_store (i := 0) (vs := [.string x1.Name, .int .i64 x1.V.K, .int .i64 x1.V.N, .string x1.V.S]) (C' := [.string x1.Name, .int .i64 x1.V.K, .int .i64 x1.V.N, .string x1.V.S]) (O' := [(b_2, .cells #[.string x1.Name, .int .i64 x1.V.K, .int .i64 x1.V.N, .string x1.V.S] 111 (0, 0)), (b_1, .cells #[.int .i64 0, .int .i64 0, .string (⟨#[]⟩ : ByteArray)] 109 (0, 0))]) Sz_111 rfl rfl rfl rfl rfl rfl ⟨rfl, rfl, rfl, rfl, trivial⟩ rfl rfl) rfl ?_
    refine WL.nil ?_
    refine WT.seq ?_
    refine WT.region ?_
    refine lq (q_fieldAddr Fld_111_0 rfl) rfl ?_
    refine lq (q_load1 T1_9 rfl (fun w1 hw => hw.rgO (i := 0) rfl 0 1 [.string x1.Name] rfl)) rfl ?_
    refine lq (q_move rfl) rfl ?_
    refine lq (q_seq rfl rfl) rfl ?_
    refine WL.nil ?_
    refine WT.cond rfl (fun c2 => ?_) (fun c2 => ?_)
    · replace h := ite_t h c2
      refine WT.seq ?_
      refine WT.region ?_
      refine lq (q_fieldAddr Fld_111_1 rfl) rfl ?_
      refine lq (q_loadN Tn_109 rfl (fun w1 hw => hw.rgO (i := 0) rfl 1 3 [.int .i64 x1.V.K, .int .i64 x1.V.N, .string x1.V.S] rfl) rfl) rfl ?_
      refine ls (s_store (i := 1) (vs := [.int .i64 x1.V.K, .int .i64 x1.V.N, .string x1.V.S]) (C' := [.int .i64 x1.V.K, .int .i64 x1.V.N, .string x1.V.S]) (O' := [(b_2, .cells #[.string x1.Name, .int .i64 x1.V.K, .int .i64 x1.V.N, .string x1.V.S] 111 (0, 0)), (b_1, .cells #[.int .i64 x1.V.K, .int .i64 x1.V.N, .string x1.V.S] 109 (0, 0))]) Sz_109 rfl rfl rfl rfl rfl rfl ⟨rfl, rfl, rfl, trivial⟩ rfl rfl) rfl ?_
      refine lq (q_assign rfl) rfl ?_
      refine WL.nil ?_
      refine WT.ret Try.func152 (resOk.two (rv_cell Tn_109 rfl (fun w1 hw => hw.rgO (i := 1) rfl 0 3 [.int .i64 x1.V.K, .int .i64 x1.V.N, .string x1.V.S] rfl) rfl) rfl) (fun w1 hw => ?_)
      subst hb0
      cases h
      exact post_of_St hw
    replace h := ite_f h c2
    refine WT.skip ?_
    refine WT.inBlock ?_
    refine WT.region ?_
    refine lq (q_add rfl rfl) rfl ?_
    refine lq (q_move rfl) rfl ?_
    refine WL.nil ?_
    refine WT.inLoop (WT.mono (l' := [(1, .string p1), (4, .pointer (some ⟨b_1, 0, none⟩)), (8, pv0), (9, .int .i64 (p0.length : Int)), (10, .int .i64 (IntKind.i64.wrap (s1 + 1)))]) (S' := St w0 Φ [(b_1, .cells #[.int .i64 0, .int .i64 0, .string (⟨#[]⟩ : ByteArray)] 109 (0, 0))] []) ⟨rfl, rfl, rfl, rfl, rfl, trivial⟩ (fun w1 hw => (hw.sel (js := []) rfl).selO (js := [1]) rfl) ?_)
    exact ih1 (IntKind.i64.wrap (s1 + 1)) h
  replace h := ite_f h c1
  refine WT.exit rfl ?_
  refine WT.seq ?_
  refine WT.region ?_
  refine lq (q_build (vs := []) (C := #[.int .i64 0, .int .i64 0, .string (⟨#[]⟩ : ByteArray)]) Pl_109 Zr_109 rfl (fill_nil)) rfl ?_
  refine ls (s_store (i := 0) (vs := [.int .i64 0, .int .i64 0, .string (⟨#[]⟩ : ByteArray)]) (C' := [.int .i64 0, .int .i64 0, .string (⟨#[]⟩ : ByteArray)]) (O' := [(b_1, .cells #[.int .i64 0, .int .i64 0, .string (⟨#[]⟩ : ByteArray)] 109 (0, 0))]) Sz_109 rfl rfl rfl rfl rfl rfl ⟨rfl, rfl, rfl, trivial⟩ rfl rfl) rfl ?_
  refine lq (q_assign rfl) rfl ?_
  refine WL.nil ?_
  refine WT.ret Try.func152 (resOk.two (rv_cell Tn_109 rfl (fun w1 hw => hw.rgO (i := 0) rfl 0 3 [.int .i64 0, .int .i64 0, .string (⟨#[]⟩ : ByteArray)] rfl) rfl) rfl) (fun w1 hw => ?_)
  subst hb0
  cases h
  exact post_of_St hw
theorem m_i_MatchPat_ok {Φ : Hp} {w : World} (hΦ : In Φ w) (N : Nat) (p0 : TPat) (p1 : TFact) (p2 : (List TBind)) {pv0_0 : Value} {pG0_0 : List Nat} {pv1_0 : Value} {pG1_0 : List Nat} {pv2 : Value} {pG2 : List Nat} (ph0_0 : RSl RTArg 5 Φ pG0_0 pv0_0 p0.Args) (ph1_0 : RSl RTVal 3 Φ pG1_0 pv1_0 p1.Fields) (ph2 : RSl RTBind 4 Φ pG2 pv2 p2) {r : (List TBind) × Bool} (h : m_i_MatchPat N p0 p1 p2 = some r) :
    Calls Try.prog 110 [.agg [.string p0.Kind, pv0_0, .bool p0.Not].toArray, .agg [.string p1.Kind, pv1_0].toArray, pv2].toArray w (PostG Φ w [] (fun Φ' Fs v => ∃ (sr_0_0 : Value), v = .tuple #[sr_0_0, .bool r.2] ∧ Fs = [ob sr_0_0] ∧ OSl RTBind 111 4 Φ' [] sr_0_0 r.1)) := by
  refine enter Try.func110 rfl Try.ntmps110 rfl (St.start0 hΦ) ?_
  have pa0_0 : Old ⟨w, [], Φ⟩ pG0_0 := Old.mk hΦ ph0_0.kn (Dj.empty _)
  have pa1_0 : Old ⟨w, [], Φ⟩ pG1_0 := Old.mk hΦ ph1_0.kn (Dj.empty _)
  have pa2 : Old ⟨w, [], Φ⟩ pG2 := Old.mk hΦ ph2.kn (Dj.empty _)
  revert pa0_0 pa1_0 pa2
  generalize hb0 : (⟨w, [], Φ⟩ : Base) = w0
  intro pa0_0 pa1_0 pa2
  unfold m_i_MatchPat at h
  refine WT.seq ?_
  refine WT.region ?_
  refine ln (n_box (C := #[.string p0.Kind, pv0_0, .bool p0.Not]) rfl rfl) rfl (fun b_1 => ?_)
  refine ln (n_box (C := #[.string p1.Kind, pv1_0]) rfl rfl) rfl (fun b_2 => ?_)
  refine lq (q_assign rfl) rfl ?_
  refine lq (q_assign rfl) rfl ?_
  refine WL.nil ?_
  refine WT.seq ?_
  refine WT.seq ?_
  refine WT.region ?_
  refine lq (q_fieldAddr Fld_97_0 rfl) rfl ?_
  refine lq (q_load1 T1_9 rfl (fun w1 hw => hw.rgO (i := 0) rfl 0 1 [.string p1.Kind] rfl)) rfl ?_
  refine lq (q_fieldAddr Fld_94_0 rfl) rfl ?_
  refine lq (q_load1 T1_9 rfl (fun w1 hw => hw.rgO (i := 1) rfl 0 1 [.string p0.Kind] rfl)) rfl ?_
  refine lq (q_sne rfl rfl) rfl ?_
  refine lq (q_move rfl) rfl ?_
  obtain ⟨b1, hb_1, h⟩ := bind_some h
  refine WL.cutN 8 [(27, .bool b1), (2, pv2), (3, .pointer (some ⟨b_1, 0, none⟩)), (4, .pointer (some ⟨b_2, 0, none⟩))] ?_ (fun K => ?_)
  rotate_left
  · refine WL.split (d := 19) rfl (fun c1 => ?_) (fun c1 => ?_)
    · replace hb_1 := ite_t hb_1 c1
      refine WL.no rfl rfl rfl rfl ?_
      refine WL.no rfl rfl rfl rfl ?_
      refine WL.no rfl rfl rfl rfl ?_
      refine WL.no rfl rfl rfl rfl ?_
      refine WL.no rfl rfl rfl rfl ?_
      refine WL.no rfl rfl rfl rfl ?_
      refine WL.no rfl rfl rfl rfl ?_
      refine WL.q (q_pick1 rfl rfl) rfl rfl rfl ?_
      cases hb_1
      exact WL.keep (by exact ⟨rfl, rfl, rfl, rfl, trivial⟩) K
    · replace hb_1 := ite_f hb_1 c1
      refine WL.yes rfl rfl ?_
      refine lq (q_fieldAddr Fld_97_1 rfl) rfl ?_
      refine WL.yes rfl rfl ?_
      refine lq (q_load1 T1_95 rfl (fun w1 hw => hw.rgO (i := 0) rfl 1 1 [pv1_0] rfl)) rfl ?_
      refine WL.yes rfl rfl ?_
      refine lq (q_lenR Sl_95 rfl rfl ph1_0) rfl ?_
      refine WL.yes rfl rfl ?_
      refine lq (q_fieldAddr Fld_94_1 rfl) rfl ?_
      refine WL.yes rfl rfl ?_
      refine lq (q_load1 T1_92 rfl (fun w1 hw => hw.rgO (i := 1) rfl 1 1 [pv0_0] rfl)) rfl ?_
      refine WL.yes rfl rfl ?_
      refine lq (q_lenR Sl_92 rfl rfl ph0_0) rfl ?_
      refine WL.yes rfl rfl ?_
      refine lq (q_neq rfl rfl) rfl ?_
      refine WL.q (q_pick0 rfl rfl) rfl rfl rfl ?_
      cases hb_1
      exact WL.keep (by exact ⟨rfl, rfl, rfl, rfl, trivial⟩) K
  refine WL.nil ?_
  refine WT.cond rfl (fun c2 => ?_) (fun c2 => ?_)
  · replace h := ite_t h c2
    refine WT.seq ?_
    refine WT.region ?_
    refine lq (q_move rfl) rfl ?_
    obtain ⟨x1, hx1, h⟩ := bind_some h
    refine lc (k_call (js := []) (R := []) Fun_129 rfl rfl (fun w1 hw ap hl => m_sl_Clone_Si_Bind_i_Bind_ok hw.fro N p2 ph2  hx1)) rfl (fun v1 Φ_1 F1 q1 => ?_)
    obtain ⟨ap1, fr1, v2, rfl, rfl, h1⟩ := q1
    refine lq (q_assign rfl) rfl ?_
    refine lq (q_assign rfl) rfl ?_
    refine WL.nil ?_
    refine WT.ret Try.func110 (resOk.two rfl rfl) (fun w1 hw => ?_)
    subst hb0
    cases h
    refine postG_of_St (js := [0]) hw rfl ⟨v1, rfl, rfl, h1⟩
  replace h := ite_f h c2
  refine WT.skip ?_
  refine WT.seq ?_
  refine WT.region ?_
  refine lq (q_move rfl) rfl ?_
  obtain ⟨x2, hx2, h⟩ := bind_some h
  refine lc (k_call (js := []) (R := []) Fun_129 rfl rfl (fun w1 hw ap hl => m_sl_Clone_Si_Bind_i_Bind_ok hw.fro N p2 ph2  hx2)) rfl (fun v3 Φ_2 F2 q2 => ?_)
  obtain ⟨ap2, fr2, v4, rfl, rfl, h2⟩ := q2
  replace ph2 := ph2.frame RTBind.lasts fr2 (ap2.o pa2)
  replace ph0_0 := ph0_0.frame RTArg.lasts fr2 (ap2.o pa0_0)
  replace ph1_0 := ph1_0.frame RTVal.lasts fr2 (ap2.o pa1_0)
  refine lq (q_assign rfl) rfl ?_
  refine WL.nil ?_
  refine WT.seq ?_
  refine WT.seq ?_
  refine WT.region ?_
  refine lq (q_fieldAddr Fld_94_1 rfl) rfl ?_
  refine lq (q_load1 T1_92 rfl (fun w1 hw => hw.rgO (i := 1) rfl 1 1 [pv0_0] rfl)) rfl ?_
  refine lq (q_lenR Sl_92 rfl rfl ph0_0) rfl ?_
  refine lq (q_move rfl) rfl ?_
  refine WL.nil ?_
  refine WT.block ?_
  refine WT.loop ?_
  refine WT.mono (l' := [(2, pv2), (4, .pointer (some ⟨b_2, 0, none⟩)), (8, v3), (33, pv0_0), (34, .int .i64 (p0.Args.length : Int)), (35, .int .i64 0)]) (S' := St w0 Φ_2 [(b_2, .cells #[.string p1.Kind, pv1_0] 97 (0, 0))] [ob v3]) ⟨rfl, rfl, rfl, rfl, rfl, rfl, trivial⟩ (fun w1 hw => (hw.sel (js := [0]) rfl).selO (js := [0]) rfl) ?_
  refine loop_ind (σ := Hp × (List TBind) × Value × Int) (fun s => [(2, pv2), (4, .pointer (some ⟨b_2, 0, none⟩)), (8, s.2.2.1), (33, pv0_0), (34, .int .i64 (p0.Args.length : Int)), (35, .int .i64 s.2.2.2)]) (fun s => St w0 s.1 [(b_2, .cells #[.string p1.Kind, pv1_0] 97 (0, 0))] [ob s.2.2.1]) (fun m s => m_i_MatchPat_l1 N p0 p1 p2 m s.2.1 s.2.2.2 = some r ∧ (OSl RTBind 111 4 s.1 [] s.2.2.1 s.2.1) ∧ (RSl RTBind 4 s.1 pG2 pv2 p2) ∧ (RSl RTVal 3 s.1 pG1_0 pv1_0 p1.Fields) ∧ (RSl RTArg 5 s.1 pG0_0 pv0_0 p0.Args)) (fun s hm => none_ne (show (none : Option ((List TBind) × Bool)) = some r from hm.1)) (fun n1 ih1 s hm => ?_) N (Φ_2, x2, v3, 0) ⟨h, h2, ph2, ph1_0, ph0_0⟩
  obtain ⟨Φ_3, s1, u1, s2⟩ := s
  obtain ⟨h, k1, ph2, ph1_0, ph0_0⟩ := hm
  replace h : m_i_MatchPat_l1 N p0 p1 p2 (n1 + 1) s1 s2 = some r := h
  replace k1 : OSl RTBind 111 4 Φ_3 [] u1 s1 := k1
  replace ph2 : RSl RTBind 4 Φ_3 pG2 pv2 p2 := ph2
  replace ph1_0 : RSl RTVal 3 Φ_3 pG1_0 pv1_0 p1.Fields := ph1_0
  replace ph0_0 : RSl RTArg 5 Φ_3 pG0_0 pv0_0 p0.Args := ph0_0
  show WT _ _ [(2, pv2), (4, .pointer (some ⟨b_2, 0, none⟩)), (8, u1), (33, pv0_0), (34, .int .i64 (p0.Args.length : Int)), (35, .int .i64 s2)] (St w0 Φ_3 [(b_2, .cells #[.string p1.Kind, pv1_0] 97 (0, 0))] [ob u1])
  unfold m_i_MatchPat_l1 at h
  refine WT.seq ?_
  refine WT.region ?_
  refine lq (q_lss rfl rfl) rfl ?_
  refine WL.nil ?_
  refine WT.seq ?_
  refine WT.cond rfl (fun c3 => ?_) (fun c3 => ?_)
  · replace h := ite_t h c3
    refine WT.skip ?_
    refine WT.seq ?_
    refine WT.block ?_
    refine WT.seq ?_
    refine WT.region ?_
    refine lq (q_move rfl) rfl ?_
    obtain ⟨x3, hx3, h⟩ := bind_some h
    obtain ⟨cs1, F3, -, g1, hb1, hs1, r1⟩ := ph0_0.el (idx_some hx3).2.2
    obtain ⟨rfl, -⟩ := r1
    refine lq (q_indexAddr Sl_92 rfl rfl ph0_0 hx3) rfl ?_
    refine lq (q_loadN Tn_140 rfl (fun w1 hw => (g1.of_eq 0 5 rfl rfl : rg _ _ _ [.int .i64 x3.K, .string x3.S, .int .i64 x3.V.K, .int .i64 x3.V.N, .string x3.V.S]).rangeAt hw.fro) rfl) rfl ?_
    refine ln (n_alloc (C := #[.int .i64 0, .string (⟨#[]⟩ : ByteArray), .int .i64 0, .int .i64 0, .string (⟨#[]⟩ : ByteArray)]) Zr_140 rfl) rfl (fun b_3 => ?_)
    refine lq (q_assign rfl) rfl ?_
    refine ls (s_store (i := 0) (vs := [.int .i64 x3.K, .string x3.S, .int .i64 x3.V.K, .int .i64 x3.V.N, .string x3.V.S]) (C' := [.int .i64 x3.K, .string x3.S, .int .i64 x3.V.K, .int .i64 x3.V.N, .string x3.V.S]) (O' := [(b_3, .cells #[.int .i64 x3.K, .string x3.S, .int .i64 x3.V.K, .int .i64 x3.V.N, .string x3.V.S] 140 (0, 0)), (b_2, .cells #[.string p1.Kind, pv1_0] 97 (0, 0))]) Sz_140 rfl rfl rfl rfl rfl rfl ⟨rfl, rfl, rfl, rfl, rfl, trivial⟩ rfl rfl) rfl ?_
    refine WL.nil ?_
    refine WT.seq ?_
    refine WT.region ?_
    refine lq (q_fieldAddr Fld_97_1 rfl) rfl ?_
    refine lq (q_load1 T1_95 rfl (fun w1 hw => hw.rgO (i := 1) rfl 1 1 [pv1_0] rfl)) rfl ?_
    refine lq (q_move rfl) rfl ?_
    obtain ⟨x4, hx4, h⟩ := bind_some h
    obtain ⟨cs2, F4, -, g2, hb2, hs2, r2⟩ := ph1_0.el (idx_some hx4).2.2
    obtain ⟨rfl, -⟩ := r2
    refine lq (q_indexAddr Sl_95 rfl rfl ph1_0 hx4) rfl ?_
    refine lq (q_loadN Tn_109 rfl (fun w1 hw => (g2.of_eq 0 3 rfl rfl : rg _ _ _ [.int .i64 x4.K, .int .i64 x4.N, .string x4.S]).rangeAt hw.fro) rfl) rfl ?_
    refine ln (n_alloc (C := #[.int .i64 0, .int .i64 0, .string (⟨#[]⟩ : ByteArray)]) Zr_109 rfl) rfl (fun b_4 => ?_)
    refine ls (s_store (i := 0) (vs := [.int .i64 x4.K, .int .i64 x4.N, .string x4.S]) (C' := [.int .i64 x4.K, .int .i64 x4.N, .string x4.S]) (O' := [(b_4, .cells #[.int .i64 x4.K, .int .i64 x4.N, .string x4.S] 109 (0, 0)), (b_3, .cells #[.int .i64 x3.K, .string x3.S, .int .i64 x3.V.K, .int .i64 x3.V.N, .string x3.V.S] 140 (0, 0)), (b_2, .cells #[.string p1.Kind, pv1_0] 97 (0, 0))]) Sz_109 rfl rfl rfl rfl rfl rfl ⟨rfl, rfl, rfl, trivial⟩ rfl rfl) rfl ?_
    refine WL.nil ?_
    refine WT.seq ?_
    refine WT.region ?_
    refine lq (q_fieldAddr Fld_140_0 rfl) rfl ?_
    refine lq (q_load1 T1_3 rfl (fun w1 hw => hw.rgO (i := 1) rfl 0 1 [.int .i64 x3.K] rfl)) rfl ?_
    refine WL.nil ?_
    refine WT.block ?_
    refine WT.seq ?_
    refine WT.region ?_
    refine lq (q_eql rfl rfl) rfl ?_
    refine lq (q_assign rfl) rfl ?_
    refine WL.nil ?_
    refine WT.cond rfl (fun c4 => ?_) (fun c4 => ?_)
    · replace h := ite_t h c4
      refine WT.seq ?_
      refine WT.region ?_
      refine lq (q_fieldAddr Fld_140_2 rfl) rfl ?_
      refine lq (q_loadN Tn_109 rfl (fun w1 hw => hw.rgO (i := 1) rfl 2 3 [.int .i64 x3.V.K, .int .i64 x3.V.N, .string x3.V.S] rfl) rfl) rfl ?_
      refine lq (q_loadN Tn_109 rfl (fun w1 hw => hw.rgO (i := 0) rfl 0 3 [.int .i64 x4.K, .int .i64 x4.N, .string x4.S] rfl) rfl) rfl ?_
      refine lq (q_neA EqT_109 rfl rfl rfl (r := eqT_TVal x3.V x4) rfl) rfl ?_
      refine WL.nil ?_
      refine WT.cond rfl (fun c5 => ?_) (fun c5 => ?_)
      · replace h := ite_t h c5
        refine WT.seq ?_
        refine WT.region ?_
        refine lq (q_move rfl) rfl ?_
        obtain ⟨x5, hx5, h⟩ := bind_some h
        refine lc (k_call (js := []) (R := [ob u1]) Fun_129 rfl rfl (fun w1 hw ap hl => m_sl_Clone_Si_Bind_i_Bind_ok hw.fro N p2 ph2  hx5)) rfl (fun v5 Φ_4 F5 q3 => ?_)
        obtain ⟨ap3, fr3, v6, rfl, rfl, h3⟩ := q3
        refine lq (q_assign rfl) rfl ?_
        refine lq (q_assign rfl) rfl ?_
        refine WL.nil ?_
        refine WT.ret Try.func110 (resOk.two rfl rfl) (fun w1 hw => ?_)
        subst hb0
        cases h
        refine postG_of_St (js := [0]) hw rfl ⟨v5, rfl, rfl, h3⟩
      replace h := ite_f h c5
      refine WT.skip ?_
      refine WT.inBlock ?_
      refine WT.inBlock ?_
      refine WT.region ?_
      refine lq (q_add rfl rfl) rfl ?_
      refine lq (q_move rfl) rfl ?_
      refine WL.nil ?_
      refine WT.inLoop (WT.mono (l' := [(2, pv2), (4, .pointer (some ⟨b_2, 0, none⟩)), (8, u1), (33, pv0_0), (34, .int .i64 (p0.Args.length : Int)), (35, .int .i64 (IntKind.i64.wrap (s2 + 1)))]) (S' := St w0 Φ_3 [(b_2, .cells #[.string p1.Kind, pv1_0] 97 (0, 0))] [ob u1]) ⟨rfl, rfl, rfl, rfl, rfl, rfl, trivial⟩ (fun w1 hw => (hw.sel (js := [0]) rfl).selO (js := [2]) rfl) ?_)
      exact ih1 (Φ_3, s1, u1, IntKind.i64.wrap (s2 + 1)) ⟨h, k1, ph2, ph1_0, ph0_0⟩
    replace h := ite_f h c4
    refine WT.seq ?_
    refine WT.region ?_
    refine lq (q_eql rfl rfl) rfl ?_
    refine lq (q_assign rfl) rfl ?_
    refine WL.nil ?_
    refine WT.cond rfl (fun c6 => ?_) (fun c6 => ?_)
    · replace h := ite_t h c6
      refine WT.seq ?_
      refine WT.region ?_
      refine lq (q_move rfl) rfl ?_
      refine lq (q_fieldAddr Fld_140_1 rfl) rfl ?_
      refine lq (q_load1 T1_9 rfl (fun w1 hw => hw.rgO (i := 1) rfl 1 1 [.string x3.S] rfl)) rfl ?_
      obtain ⟨x6, hx6, h⟩ := bind_some h
      refine lp (p_call Fun_152 rfl (fun w1 hw => m_i_BindOf_ok hw.fro N s1 x3.S k1.rsl hx6)) rfl ?_
      refine lq (q_move rfl) rfl ?_
      refine lq (q_extract rfl rfl) rfl ?_
      refine lq (q_extract rfl rfl) rfl ?_
      refine ln (n_alloc (C := #[.int .i64 0, .int .i64 0, .string (⟨#[]⟩ : ByteArray)]) Zr_109 rfl) rfl (fun b_5 => ?_)
      refine ls (s_store (i := 0) (vs := [.int .i64 x6.1.K, .int .i64 x6.1.N, .string x6.1.S]) (C' := [.int .i64 x6.1.K, .int .i64 x6.1.N, .string x6.1.S]) (O' := [(b_5, .cells #[.int .i64 x6.1.K, .int .i64 x6.1.N, .string x6.1.S] 109 (0, 0)), (b_4, .cells #[.int .i64 x4.K, .int .i64 x4.N, .string x4.S] 109 (0, 0)), (b_3, .cells #[.int .i64 x3.K, .string x3.S, .int .i64 x3.V.K, .int .i64 x3.V.N, .string x3.V.S] 140 (0, 0)), (b_2, .cells #[.string p1.Kind, pv1_0] 97 (0, 0))]) Sz_109 rfl rfl rfl rfl rfl rfl ⟨rfl, rfl, rfl, trivial⟩ rfl rfl) rfl ?_
      refine lq (q_assign rfl) rfl ?_
      refine WL.nil ?_
      refine WT.seq ?_
      refine WT.seq ?_
      refine WT.region ?_
      refine lq (q_move rfl) rfl ?_
      refine lq (q_move rfl) rfl ?_
      obtain ⟨b2, hb_2, h⟩ := bind_some h
      refine WL.cutN 4 [(69, .bool b2), (2, pv2), (4, .pointer (some ⟨b_2, 0, none⟩)), (8, u1), (10, .pointer (some ⟨b_3, 0, none⟩)), (11, .pointer (some ⟨b_4, 0, none⟩)), (13, .bool x6.2), (33, pv0_0), (34, .int .i64 (p0.Args.length : Int)), (35, .int .i64 s2)] ?_ (fun K => ?_)
      rotate_left
      · refine WL.split (d := 65) rfl (fun c7 => ?_) (fun c7 => ?_)
        · replace hb_2 := ite_t hb_2 c7
          refine WL.yes rfl rfl ?_
          refine lq (q_loadN Tn_109 rfl (fun w1 hw => hw.rgO (i := 0) rfl 0 3 [.int .i64 x6.1.K, .int .i64 x6.1.N, .string x6.1.S] rfl) rfl) rfl ?_
          refine WL.yes rfl rfl ?_
          refine lq (q_loadN Tn_109 rfl (fun w1 hw => hw.rgO (i := 1) rfl 0 3 [.int .i64 x4.K, .int .i64 x4.N, .string x4.S] rfl) rfl) rfl ?_
          refine WL.yes rfl rfl ?_
          refine lq (q_neA EqT_109 rfl rfl rfl (r := eqT_TVal x6.1 x4) rfl) rfl ?_
          refine WL.q (q_pick1 rfl rfl) rfl rfl rfl ?_
          cases hb_2
          exact WL.keep (by exact ⟨rfl, rfl, rfl, rfl, rfl, rfl, rfl, rfl, rfl, rfl, trivial⟩) K
        · replace hb_2 := ite_f hb_2 c7
          refine WL.no rfl rfl rfl rfl ?_
          refine WL.no rfl rfl rfl rfl ?_
          refine WL.no rfl rfl rfl rfl ?_
          refine WL.q (q_pick0 rfl rfl) rfl rfl rfl ?_
          cases hb_2
          exact WL.keep (by exact ⟨rfl, rfl, rfl, rfl, rfl, rfl, rfl, rfl, rfl, rfl, trivial⟩) K
      refine WL.nil ?_
      refine WT.cond rfl (fun c8 => ?_) (fun c8 => ?_)
      · replace h := ite_t h c8
        refine WT.seq ?_
        refine WT.region ?_
        refine lq (q_move rfl) rfl ?_
        obtain ⟨x7, hx7, h⟩ := bind_some h
        refine lc (k_call (js := []) (R := [ob u1]) Fun_129 rfl rfl (fun w1 hw ap hl => m_sl_Clone_Si_Bind_i_Bind_ok hw.fro N p2 ph2  hx7)) rfl (fun v7 Φ_5 F6 q4 => ?_)
        obtain ⟨ap4, fr4, v8, rfl, rfl, h4⟩ := q4
        refine lq (q_assign rfl) rfl ?_
        refine lq (q_assign rfl) rfl ?_
        refine WL.nil ?_
        refine WT.ret Try.func110 (resOk.two rfl rfl) (fun w1 hw => ?_)
        subst hb0
        cases h
        refine postG_of_St (js := [0]) hw rfl ⟨v7, rfl, rfl, h4⟩
      replace h := ite_f h c8
      refine WT.skip ?_
      refine WT.seq ?_
      refine WT.region ?_
      refine lq (q_move rfl) rfl ?_
      refine lq (q_not rfl) rfl ?_
      refine WL.nil ?_
      refine WT.cond rfl (fun c9 => ?_) (fun c9 => ?_)
      · replace h := ite_t h c9
        refine WT.region ?_
        refine lq (q_move rfl) rfl ?_
        refine lq (q_fieldAddr Fld_140_1 rfl) rfl ?_
        refine lq (q_load1 T1_9 rfl (fun w1 hw => hw.rgO (i := 2) rfl 1 1 [.string x3.S] rfl)) rfl ?_
        refine lq (q_loadN Tn_109 rfl (fun w1 hw => hw.rgO (i := 1) rfl 0 3 [.int .i64 x4.K, .int .i64 x4.N, .string x4.S] rfl) rfl) rfl ?_
        refine lq (q_build (vs := [(0, .string x3.S), (1, .agg [.int .i64 x4.K, .int .i64 x4.N, .string x4.S].toArray)]) (C := #[.string x3.S, .int .i64 x4.K, .int .i64 x4.N, .string x4.S]) Pl_111 Zr_111 rfl (fill_cons (cells := [.string ⟨#[]⟩, .int .i64 0, .int .i64 0, .string ⟨#[]⟩]) (c := [.string x3.S]) (C' := [.string x3.S, .int .i64 0, .int .i64 0, .string ⟨#[]⟩]) rfl rfl rfl rfl rfl (fill_cons (cells := [.string x3.S, .int .i64 0, .int .i64 0, .string ⟨#[]⟩]) (c := [.int .i64 x4.K, .int .i64 x4.N, .string x4.S]) (C' := [.string x3.S, .int .i64 x4.K, .int .i64 x4.N, .string x4.S]) rfl rfl rfl rfl rfl (fill_nil)))) rfl ?_
        have rc1 : RC RTBind 4 Φ_3 ([[]] : List (List Nat)) [.string x3.S, .int .i64 x4.K, .int .i64 x4.N, .string x4.S] ([(⟨x3.S, x4⟩ : TBind)] : List TBind) := RC.cons (c := [.string x3.S, .int .i64 x4.K, .int .i64 x4.N, .string x4.S]) (cells := []) ⟨rfl, rfl⟩ rfl (RC.nil _ _ _)
        refine le' (e_lit (vs := [(0, .agg [.string x3.S, .int .i64 x4.K, .int .i64 x4.N, .string x4.S].toArray)]) (C := #[.string x3.S, .int .i64 x4.K, .int .i64 x4.N, .string x4.S]) RTBind.lasts Sl_44 Zr_111 rfl rfl rfl rfl (fill_made MC_111_1 (fill_cons (cells := [.string ⟨#[]⟩, .int .i64 0, .int .i64 0, .string ⟨#[]⟩]) (c := [.string x3.S, .int .i64 x4.K, .int .i64 x4.N, .string x4.S]) (C' := [.string x3.S, .int .i64 x4.K, .int .i64 x4.N, .string x4.S]) rfl rfl rfl rfl rfl (fill_nil))) rfl rc1 rfl (by simpa using Kw.nil)) rfl (fun v9 Φ_6 D1 q5 => ?_)
        obtain ⟨fr5, h5⟩ := q5
        replace h5 : OSl RTBind 111 4 Φ_6 [] v9 ([(⟨x3.S, x4⟩ : TBind)] : List TBind) := by simpa using h5
        replace ph2 := ph2.frame RTBind.lasts fr5 (Dj.empty _)
        replace ph1_0 := ph1_0.frame RTVal.lasts fr5 (Dj.empty _)
        replace ph0_0 := ph0_0.frame RTArg.lasts fr5 (Dj.empty _)
        replace k1 := k1.frame RTBind.lasts fr5 (Dj.empty _) (Dj.empty _)
        obtain ⟨x8, hx8, h⟩ := bind_some h
        refine le' (e_appF RTBind.lasts RTBind.one RTBind.flat Sl_44 Ei_111 rfl rfl rfl rfl rfl (js := [1]) (Rr := [ob v9]) rfl k1 h5.rsl hx8) rfl (fun v10 Φ_7 D2 q6 => ?_)
        obtain ⟨⟨ap5, fr6⟩, h6⟩ := q6
        replace ph2 := ph2.frame RTBind.lasts fr6 (ap5.o pa2)
        replace ph1_0 := ph1_0.frame RTVal.lasts fr6 (ap5.o pa1_0)
        replace ph0_0 := ph0_0.frame RTArg.lasts fr6 (ap5.o pa0_0)
        refine lq (q_assign rfl) rfl ?_
        refine WL.nil ?_
        refine WT.inBlock ?_
        refine WT.inBlock ?_
        refine WT.region ?_
        refine lq (q_add rfl rfl) rfl ?_
        refine lq (q_move rfl) rfl ?_
        refine WL.nil ?_
        refine WT.inLoop (WT.mono (l' := [(2, pv2), (4, .pointer (some ⟨b_2, 0, none⟩)), (8, v10), (33, pv0_0), (34, .int .i64 (p0.Args.length : Int)), (35, .int .i64 (IntKind.i64.wrap (s2 + 1)))]) (S' := St w0 Φ_7 [(b_2, .cells #[.string p1.Kind, pv1_0] 97 (0, 0))] [ob v10]) ⟨rfl, rfl, rfl, rfl, rfl, rfl, trivial⟩ (fun w1 hw => (hw.sel (js := [0]) rfl).selO (js := [3]) rfl) ?_)
        exact ih1 (Φ_7, x8, v10, IntKind.i64.wrap (s2 + 1)) ⟨h, h6, ph2, ph1_0, ph0_0⟩
      replace h := ite_f h c9
      refine WT.skip ?_
      refine WT.inBlock ?_
      refine WT.inBlock ?_
      refine WT.region ?_
      refine lq (q_add rfl rfl) rfl ?_
      refine lq (q_move rfl) rfl ?_
      refine WL.nil ?_
      refine WT.inLoop (WT.mono (l' := [(2, pv2), (4, .pointer (some ⟨b_2, 0, none⟩)), (8, u1), (33, pv0_0), (34, .int .i64 (p0.Args.length : Int)), (35, .int .i64 (IntKind.i64.wrap (s2 + 1)))]) (S' := St w0 Φ_3 [(b_2, .cells #[.string p1.Kind, pv1_0] 97 (0, 0))] [ob u1]) ⟨rfl, rfl, rfl, rfl, rfl, rfl, trivial⟩ (fun w1 hw => (hw.sel (js := [0]) rfl).selO (js := [3]) rfl) ?_)
      exact ih1 (Φ_3, s1, u1, IntKind.i64.wrap (s2 + 1)) ⟨h, k1, ph2, ph1_0, ph0_0⟩
    replace h := ite_f h c6
    refine WT.skip ?_
    refine WT.inBlock ?_
    refine WT.inBlock ?_
    refine WT.region ?_
    refine lq (q_add rfl rfl) rfl ?_
    refine lq (q_move rfl) rfl ?_
    refine WL.nil ?_
    refine WT.inLoop (WT.mono (l' := [(2, pv2), (4, .pointer (some ⟨b_2, 0, none⟩)), (8, u1), (33, pv0_0), (34, .int .i64 (p0.Args.length : Int)), (35, .int .i64 (IntKind.i64.wrap (s2 + 1)))]) (S' := St w0 Φ_3 [(b_2, .cells #[.string p1.Kind, pv1_0] 97 (0, 0))] [ob u1]) ⟨rfl, rfl, rfl, rfl, rfl, rfl, trivial⟩ (fun w1 hw => (hw.sel (js := [0]) rfl).selO (js := [2]) rfl) ?_)
    exact ih1 (Φ_3, s1, u1, IntKind.i64.wrap (s2 + 1)) ⟨h, k1, ph2, ph1_0, ph0_0⟩
  replace h := ite_f h c3
  refine WT.exit rfl ?_
  refine WT.seq ?_
  refine WT.region ?_
  refine lq (q_move rfl) rfl ?_
  refine lq (q_assign rfl) rfl ?_
  refine lq (q_assign rfl) rfl ?_
  refine WL.nil ?_
  refine WT.ret Try.func110 (resOk.two rfl rfl) (fun w1 hw => ?_)
  subst hb0
  cases h
  refine postG_of_St (js := [0]) hw rfl ⟨u1, rfl, rfl, k1⟩
theorem m_i_bindsOf_ok {Φ : Hp} {w : World} (hΦ : In Φ w) (N : Nat) (p0 : (List TPat)) (p1 : TStore) (p2 : (List Int)) {pv0 : Value} {pG0 : List Nat} {pv1_0 : Value} {pG1_0 : List Nat} {pv2 : Value} {pG2 : List Nat} (ph0 : RSl RTPat 3 Φ pG0 pv0 p0) (ph1_0 : RSl RTItem 3 Φ pG1_0 pv1_0 p1.Items) (ph2 : RSl (RI .i64) 1 Φ pG2 pv2 p2) {r : (List TBind) × Bool} (h : m_i_bindsOf N p0 p1 p2 = some r) :
    Calls Try.prog 59 [pv0, .agg [pv1_0, .int .i64 p1.Next].toArray, pv2].toArray w (PostG Φ w [] (fun Φ' Fs v => ∃ (sr_0_0 : Value), v = .tuple #[sr_0_0, .bool r.2] ∧ Fs = [ob sr_0_0] ∧ OSl RTBind 111 4 Φ' [] sr_0_0 r.1)) := by
  refine enter Try.func59 rfl Try.ntmps59 rfl (St.start0 hΦ) ?_
  have pa0 : Old ⟨w, [], Φ⟩ pG0 := Old.mk hΦ ph0.kn (Dj.empty _)
  have pa1_0 : Old ⟨w, [], Φ⟩ pG1_0 := Old.mk hΦ ph1_0.kn (Dj.empty _)
  have pa2 : Old ⟨w, [], Φ⟩ pG2 := Old.mk hΦ ph2.kn (Dj.empty _)
  revert pa0 pa1_0 pa2
  generalize hb0 : (⟨w, [], Φ⟩ : Base) = w0
  intro pa0 pa1_0 pa2
  unfold m_i_bindsOf at h
  refine WT.seq ?_
  refine WT.region ?_
  refine ln (n_box (C := #[pv1_0, .int .i64 p1.Next]) rfl rfl) rfl (fun b_1 => ?_)
  refine lq (q_assign rfl) rfl ?_
  refine lq (q_assign rfl) rfl ?_
  refine WL.nil ?_
  refine WT.seq ?_
  refine WT.region ?_
  refine lq (q_assign rfl) rfl ?_
  refine WL.nil ?_
  refine WT.seq ?_
  refine WT.seq ?_
  refine WT.region ?_
  refine lq (q_move rfl) rfl ?_
  refine lq (q_lenR Sl_41 rfl rfl ph2) rfl ?_
  refine lq (q_move rfl) rfl ?_
  refine WL.nil ?_
  refine WT.block ?_
  refine WT.loop ?_
  refine WT.conv (S' := St w0 Φ [(b_1, .cells #[pv1_0, .int .i64 p1.Next] 55 (0, 0))] (ob (.slice none 0 0) :: [])) (fun w1 hw => hw.addNil) ?_
  have k1 := OSl.nil RTBind 111 4 Φ
  refine WT.mono (l' := [(0, pv0), (4, .pointer (some ⟨b_1, 0, none⟩)), (8, (.slice none 0 0)), (13, pv2), (14, .int .i64 (p2.length : Int)), (15, .int .i64 0)]) (S' := St w0 Φ [(b_1, .cells #[pv1_0, .int .i64 p1.Next] 55 (0, 0))] [ob (.slice none 0 0)]) ⟨rfl, rfl, rfl, rfl, rfl, rfl, trivial⟩ (fun w1 hw => (hw.sel (js := [0]) rfl).selO (js := [0]) rfl) ?_
  refine loop_ind (σ := Hp × (List TBind) × Value × Int) (fun s => [(0, pv0), (4, .pointer (some ⟨b_1, 0, none⟩)), (8, s.2.2.1), (13, pv2), (14, .int .i64 (p2.length : Int)), (15, .int .i64 s.2.2.2)]) (fun s => St w0 s.1 [(b_1, .cells #[pv1_0, .int .i64 p1.Next] 55 (0, 0))] [ob s.2.2.1]) (fun m s => m_i_bindsOf_l1 N p0 p1 p2 m s.2.1 s.2.2.2 = some r ∧ (OSl RTBind 111 4 s.1 [] s.2.2.1 s.2.1) ∧ (RSl RTPat 3 s.1 pG0 pv0 p0) ∧ (RSl RTItem 3 s.1 pG1_0 pv1_0 p1.Items) ∧ (RSl (RI .i64) 1 s.1 pG2 pv2 p2)) (fun s hm => none_ne (show (none : Option ((List TBind) × Bool)) = some r from hm.1)) (fun n1 ih1 s hm => ?_) N (Φ, ([] : List TBind), (.slice none 0 0), 0) ⟨h, k1, ph0, ph1_0, ph2⟩
  obtain ⟨Φ_1, s1, u1, s2⟩ := s
  obtain ⟨h, k2, ph0, ph1_0, ph2⟩ := hm
  replace h : m_i_bindsOf_l1 N p0 p1 p2 (n1 + 1) s1 s2 = some r := h
  replace k2 : OSl RTBind 111 4 Φ_1 [] u1 s1 := k2
  replace ph0 : RSl RTPat 3 Φ_1 pG0 pv0 p0 := ph0
  replace ph1_0 : RSl RTItem 3 Φ_1 pG1_0 pv1_0 p1.Items := ph1_0
  replace ph2 : RSl (RI .i64) 1 Φ_1 pG2 pv2 p2 := ph2
  show WT _ _ [(0, pv0), (4, .pointer (some ⟨b_1, 0, none⟩)), (8, u1), (13, pv2), (14, .int .i64 (p2.length : Int)), (15, .int .i64 s2)] (St w0 Φ_1 [(b_1, .cells #[pv1_0, .int .i64 p1.Next] 55 (0, 0))] [ob u1])
  unfold m_i_bindsOf_l1 at h
  refine WT.seq ?_
  refine WT.region ?_
  refine lq (q_lss rfl rfl) rfl ?_
  refine WL.nil ?_
  refine WT.seq ?_
  refine WT.cond rfl (fun c1 => ?_) (fun c1 => ?_)
  · replace h := ite_t h c1
    refine WT.skip ?_
    refine WT.seq ?_
    refine WT.block ?_
    refine WT.seq ?_
    refine WT.region ?_
    refine lq (q_move rfl) rfl ?_
    obtain ⟨x1, hx1, h⟩ := bind_some h
    obtain ⟨cs1, F1, -, g1, hb1, hs1, r1⟩ := ph2.el (idx_some hx1).2.2
    obtain ⟨rfl, -⟩ := r1
    refine lq (q_indexAddr Sl_41 rfl rfl ph2 hx1) rfl ?_
    refine lq (q_load1 T1_3 rfl (fun w1 hw => (g1.of_eq 0 1 rfl rfl : rg _ _ _ [.int .i64 x1]).rangeAt hw.fro)) rfl ?_
    refine lq (q_assign rfl) rfl ?_
    refine lq (q_assign rfl) rfl ?_
    refine WL.nil ?_
    refine WT.seq ?_
    refine WT.region ?_
    refine lq (q_loadN Tn_55 rfl (fun w1 hw => hw.rgO (i := 0) rfl 0 2 [pv1_0, .int .i64 p1.Next] rfl) rfl) rfl ?_
    refine lq (q_move rfl) rfl ?_
    obtain ⟨x2, hx2, h⟩ := bind_some h
    refine lc (k_call (js := []) (R := [ob u1]) Fun_109 rfl rfl (fun w1 hw ap hl => m_i_FactOf_ok hw.fro N p1 x1 ph1_0  hx2)) rfl (fun v1 Φ_2 F2 q1 => ?_)
    obtain ⟨ap1, fr1, v2, rfl, rfl, h1⟩ := q1
    replace ph0 := ph0.frame RTPat.lasts fr1 (ap1.o pa0)
    replace ph1_0 := ph1_0.frame RTItem.lasts fr1 (ap1.o pa1_0)
    replace ph2 := ph2.frame RI.lasts fr1 (ap1.o pa2)
    replace k2 := k2.frame RTBind.lasts fr1 (ap1.r (i := 0) rfl) (Dj.nil _)
    refine lq (q_move rfl) rfl ?_
    refine lq (q_extract rfl rfl) rfl ?_
    refine lq (q_extract rfl rfl) rfl ?_
    refine ln (n_alloc (C := #[.string (⟨#[]⟩ : ByteArray), .slice none 0 0]) Zr_97 rfl) rfl (fun b_2 => ?_)
    refine ls (s_store (i := 0) (vs := [.string x2.1.Kind, v2]) (C' := [.string x2.1.Kind, v2]) (O' := [(b_2, .cells #[.string x2.1.Kind, v2] 97 (0, 0)), (b_1, .cells #[pv1_0, .int .i64 p1.Next] 55 (0, 0))]) Sz_97 rfl rfl rfl rfl rfl rfl ⟨rfl, h1.one, trivial⟩ rfl rfl) rfl ?_
    refine lq (q_assign rfl) rfl ?_
    refine WL.nil ?_
    refine WT.seq ?_
    refine WT.seq ?_
    refine WT.region ?_
    refine lq (q_move rfl) rfl ?_
    refine lq (q_not rfl) rfl ?_
    refine WL.nil ?_
    refine WT.cond rfl (fun c2 => ?_) (fun c2 => ?_)
    · replace h := ite_t h c2
      refine WT.seq ?_
      refine WT.region ?_
      refine lq (q_assign rfl) rfl ?_
      refine lq (q_assign rfl) rfl ?_
      refine WL.nil ?_
      refine WT.ret Try.func59 (resOk.two rfl rfl) (fun w1 hw => ?_)
      subst hb0
      cases h
      replace hw := hw.addNil
      refine postG_of_St (js := [0]) hw rfl ⟨.slice none 0 0, rfl, rfl, OSl.nil _ _ _ _⟩
    replace h := ite_f h c2
    refine WT.skip ?_
    refine WT.seq ?_
    refine WT.mix (Kn Φ_2 pG0 [(b_2, .cells #[.string x2.1.Kind, v2] 97 (0, 0)), (b_1, .cells #[pv1_0, .int .i64 p1.Next] 55 (0, 0))]) (fun _ => true) mixed (fun _ h => h.drew) ?_
    refine mq 0 rfl (by kernel_rfl) (fun w1 hw => Kn.of (fun _ _ _ h => h) (AllIn.mem ⟨List.mem_of_getElem? (i := 0) rfl, List.mem_of_getElem? (i := 1) rfl, trivial⟩) hw) (q_move rfl) rfl ?_
    refine mq 1 rfl (by kernel_rfl) (fun w1 hw => Kn.of (fun _ _ _ h => h) (AllIn.mem ⟨List.mem_of_getElem? (i := 0) rfl, List.mem_of_getElem? (i := 1) rfl, trivial⟩) hw) (q_move rfl) rfl ?_
    obtain ⟨x3, hx3, h⟩ := bind_some h
    obtain ⟨cs2, F3, -, g2, hb2, hs2, r2⟩ := ph0.el (idx_some hx3).2.2
    obtain ⟨v3, G1, rfl, hq1, h2⟩ := r2
    obtain rfl := hq1.symm
    refine mq 2 rfl (by kernel_rfl) (fun w1 hw => Kn.of (fun _ _ _ h => h) (AllIn.mem ⟨List.mem_of_getElem? (i := 0) rfl, List.mem_of_getElem? (i := 1) rfl, trivial⟩) hw) (q_indexAddr Sl_47 rfl rfl ph0 hx3) rfl ?_
    refine mq 3 rfl (by kernel_rfl) (fun w1 hw => Kn.of (fun _ _ _ h => h) (AllIn.mem ⟨List.mem_of_getElem? (i := 0) rfl, List.mem_of_getElem? (i := 1) rfl, trivial⟩) hw) (q_loadN Tn_94 rfl (fun w1 hw => hw.rg hb2 (g2.of_eq 0 3 rfl rfl : rg _ _ _ [.string x3.Kind, v3, .bool x3.Not])) rfl) rfl ?_
    refine mq 4 rfl (by kernel_rfl) (fun w1 hw => Kn.of (fun _ _ _ h => h) (AllIn.mem ⟨List.mem_of_getElem? (i := 0) rfl, List.mem_of_getElem? (i := 1) rfl, trivial⟩) hw) (q_loadN Tn_97 rfl (fun w1 hw => hw.rgO (i := 0) rfl 0 2 [.string x2.1.Kind, v2] rfl) rfl) rfl ?_
    refine mq 5 rfl (by kernel_rfl) (fun w1 hw => Kn.of (fun _ _ _ h => h) (AllIn.mem ⟨List.mem_of_getElem? (i := 0) rfl, List.mem_of_getElem? (i := 1) rfl, trivial⟩) hw) (q_move rfl) rfl ?_
    obtain ⟨x4, hx4, h⟩ := bind_some h
    refine WM.one 6 (by kernel_rfl) (mc rfl (fun _ v Φx D w1 hq hw => Kn.of (fun k hk o ho => hq.2.1 k o ((hq.1.o pa0) k hk) ((fun _ _ _ h => h) k hk o ho)) (AllIn.mem ⟨List.mem_of_getElem? (i := 0) rfl, List.mem_of_getElem? (i := 1) rfl, trivial⟩) hw) (k_call (js := []) (R := [ob v2, ob u1]) Fun_110 rfl rfl (fun w1 hw ap hl => m_i_MatchPat_ok hw.fro N x3 x2.1 s1 h2 h1.rsl k2.rsl  hx4)) rfl (fun v4 Φ_3 F4 q2 => ?_))
    obtain ⟨ap2, fr2, v5, rfl, rfl, h3⟩ := q2
    replace ph0 := ph0.frame RTPat.lasts fr2 (ap2.o pa0)
    replace ph1_0 := ph1_0.frame RTItem.lasts fr2 (ap2.o pa1_0)
    replace ph2 := ph2.frame RI.lasts fr2 (ap2.o pa2)
    replace k2 := k2.frame RTBind.lasts fr2 (ap2.r (i := 1) rfl) (Dj.nil _)
    refine mq 7 rfl (by kernel_rfl) (fun w1 hw => Kn.of (fun k hk o ho => fr2 k o ((ap2.o pa0) k hk) ((fun _ _ _ h => h) k hk o ho)) (AllIn.mem ⟨List.mem_of_getElem? (i := 0) rfl, List.mem_of_getElem? (i := 1) rfl, trivial⟩) hw) (q_move rfl) rfl ?_
    refine mq 8 rfl (by kernel_rfl) (fun w1 hw => Kn.of (fun k hk o ho => fr2 k o ((ap2.o pa0) k hk) ((fun _ _ _ h => h) k hk o ho)) (AllIn.mem ⟨List.mem_of_getElem? (i := 0) rfl, List.mem_of_getElem? (i := 1) rfl, trivial⟩) hw) (q_extract rfl rfl) rfl ?_
    refine mq 9 rfl (by kernel_rfl) (fun w1 hw => Kn.of (fun k hk o ho => fr2 k o ((ap2.o pa0) k hk) ((fun _ _ _ h => h) k hk o ho)) (AllIn.mem ⟨List.mem_of_getElem? (i := 0) rfl, List.mem_of_getElem? (i := 1) rfl, trivial⟩) hw) (q_extract rfl rfl) rfl ?_
    refine mq 10 rfl (by kernel_rfl) (fun w1 hw => Kn.of (fun k hk o ho => fr2 k o ((ap2.o pa0) k hk) ((fun _ _ _ h => h) k hk o ho)) (AllIn.mem ⟨List.mem_of_getElem? (i := 0) rfl, List.mem_of_getElem? (i := 1) rfl, trivial⟩) hw) (q_assign rfl) rfl ?_
    refine mq 11 rfl (by kernel_rfl) (fun w1 hw => Kn.of (fun k hk o ho => fr2 k o ((ap2.o pa0) k hk) ((fun _ _ _ h => h) k hk o ho)) (AllIn.mem ⟨List.mem_of_getElem? (i := 0) rfl, List.mem_of_getElem? (i := 1) rfl, trivial⟩) hw) (q_assign rfl) rfl ?_
    refine WM.nil (by kernel_rfl) ?_
    refine WT.seq ?_
    refine WT.region ?_
    refine lq (q_move rfl) rfl ?_
    refine lq (q_not rfl) rfl ?_
    refine WL.nil ?_
    refine WT.cond rfl (fun c3 => ?_) (fun c3 => ?_)
    · replace h := ite_t h c3
      refine WT.seq ?_
      refine WT.region ?_
      refine lq (q_assign rfl) rfl ?_
      refine lq (q_assign rfl) rfl ?_
      refine WL.nil ?_
      refine WT.ret Try.func59 (resOk.two rfl rfl) (fun w1 hw => ?_)
      subst hb0
      cases h
      replace hw := hw.addNil
      refine postG_of_St (js := [0]) hw rfl ⟨.slice none 0 0, rfl, rfl, OSl.nil _ _ _ _⟩
    replace h := ite_f h c3
    refine WT.skip ?_
    refine WT.inBlock ?_
    refine WT.region ?_
    refine lq (q_add rfl rfl) rfl ?_
    refine lq (q_move rfl) rfl ?_
    refine WL.nil ?_
    refine WT.inLoop (WT.mono (l' := [(0, pv0), (4, .pointer (some ⟨b_1, 0, none⟩)), (8, v5), (13, pv2), (14, .int .i64 (p2.length : Int)), (15, .int .i64 (IntKind.i64.wrap (s2 + 1)))]) (S' := St w0 Φ_3 [(b_1, .cells #[pv1_0, .int .i64 p1.Next] 55 (0, 0))] [ob v5]) ⟨rfl, rfl, rfl, rfl, rfl, rfl, trivial⟩ (fun w1 hw => (hw.sel (js := [0]) rfl).selO (js := [1]) rfl) ?_)
    exact ih1 (Φ_3, x4.1, v5, IntKind.i64.wrap (s2 + 1)) ⟨h, h3, ph0, ph1_0, ph2⟩
  replace h := ite_f h c1
  refine WT.exit rfl ?_
  refine WT.seq ?_
  refine WT.region ?_
  refine lq (q_move rfl) rfl ?_
  refine lq (q_assign rfl) rfl ?_
  refine lq (q_assign rfl) rfl ?_
  refine WL.nil ?_
  refine WT.ret Try.func59 (resOk.two rfl rfl) (fun w1 hw => ?_)
  subst hb0
  cases h
  refine postG_of_St (js := [0]) hw rfl ⟨u1, rfl, rfl, k2⟩
theorem m_i_BindsFor_ok {Φ : Hp} {w : World} (hΦ : In Φ w) (N : Nat) (p0 : TRule) (p1 : TStore) (p2 : (List Int)) {pv0_0 : Value} {pG0_0 : List Nat} {pv0_1 : Value} {pG0_1 : List Nat} {pv0_2 : Value} {pG0_2 : List Nat} {pv1_0 : Value} {pG1_0 : List Nat} {pv2 : Value} {pG2 : List Nat} (ph0_0 : RSl RTPat 3 Φ pG0_0 pv0_0 p0.Pats) (ph0_1 : RSl RTCond 11 Φ pG0_1 pv0_1 p0.Conds) (ph0_2 : RSl RTAct 5 Φ pG0_2 pv0_2 p0.Acts) (ph1_0 : RSl RTItem 3 Φ pG1_0 pv1_0 p1.Items) (ph2 : RSl (RI .i64) 1 Φ pG2 pv2 p2) {r : (List TBind) × Bool} (h : m_i_BindsFor N p0 p1 p2 = some r) :
    Calls Try.prog 17 [.agg [.string p0.Name, .int .i64 p0.Sal, pv0_0, pv0_1, pv0_2].toArray, .agg [pv1_0, .int .i64 p1.Next].toArray, pv2].toArray w (PostG Φ w [] (fun Φ' Fs v => ∃ (sr_0_0 : Value), v = .tuple #[sr_0_0, .bool r.2] ∧ Fs = [ob sr_0_0] ∧ OSl RTBind 111 4 Φ' [] sr_0_0 r.1)) := by
  refine enter Try.func17 rfl Try.ntmps17 rfl (St.start0 hΦ) ?_
  have pa1_0 : Old ⟨w, [], Φ⟩ pG1_0 := Old.mk hΦ ph1_0.kn (Dj.empty _)
  have pa2 : Old ⟨w, [], Φ⟩ pG2 := Old.mk hΦ ph2.kn (Dj.empty _)
  unfold m_i_BindsFor at h
  refine WT.seq ?_
  refine WT.region ?_
  refine ln (n_box (C := #[.string p0.Name, .int .i64 p0.Sal, pv0_0, pv0_1, pv0_2]) rfl rfl) rfl (fun b_1 => ?_)
  refine ln (n_box (C := #[pv1_0, .int .i64 p1.Next]) rfl rfl) rfl (fun b_2 => ?_)
  refine lq (q_assign rfl) rfl ?_
  refine lq (q_assign rfl) rfl ?_
  refine WL.nil ?_
  refine WT.seq ?_
  refine WT.region ?_
  refine lq (q_loadN Tn_51 rfl (fun w1 hw => hw.rgO (i := 1) rfl 0 5 [.string p0.Name, .int .i64 p0.Sal, pv0_0, pv0_1, pv0_2] rfl) rfl) rfl ?_
  obtain ⟨x1, hx1, h⟩ := bind_some h
  refine lc (k_call (js := []) (R := []) Fun_58 rfl rfl (fun w1 hw ap hl => m_i_pats_ok hw.fro N p0 false ph0_0 ph0_1 ph0_2  hx1)) rfl (fun v1 Φ_1 F1 q1 => ?_)
  obtain ⟨ap1, fr1, v2, D1, rfl, rfl, h1, i1⟩ := q1
  replace ph2 := ph2.frame RI.lasts fr1 (ap1.o pa2)
  replace ph1_0 := ph1_0.frame RTItem.lasts fr1 (ap1.o pa1_0)
  refine lq (q_assign rfl) rfl ?_
  refine WL.nil ?_
  refine WT.seq ?_
  refine WT.seq ?_
  refine WT.region ?_
  refine lq (q_move rfl) rfl ?_
  refine lq (q_lenR Sl_41 rfl rfl ph2) rfl ?_
  refine lq (q_move rfl) rfl ?_
  refine lq (q_lenR Sl_47 rfl rfl h1.rsl) rfl ?_
  refine lq (q_neq rfl rfl) rfl ?_
  refine WL.nil ?_
  refine WT.cond rfl (fun c1 => ?_) (fun c1 => ?_)
  · replace h := ite_t h c1
    refine WT.seq ?_
    refine WT.region ?_
    refine lq (q_assign rfl) rfl ?_
    refine lq (q_assign rfl) rfl ?_
    refine WL.nil ?_
    refine WT.ret Try.func17 (resOk.two rfl rfl) (fun w1 hw => ?_)
    cases h
    replace hw := hw.addNil
    refine postG_of_St (js := [0]) hw rfl ⟨.slice none 0 0, rfl, rfl, OSl.nil _ _ _ _⟩
  replace h := ite_f h c1
  refine WT.skip ?_
  refine WT.seq ?_
  refine WT.region ?_
  refine lq (q_move rfl) rfl ?_
  refine lq (q_loadN Tn_55 rfl (fun w1 hw => hw.rgO (i := 0) rfl 0 2 [pv1_0, .int .i64 p1.Next] rfl) rfl) rfl ?_
  refine lq (q_move rfl) rfl ?_
  obtain ⟨x2, hx2, h⟩ := bind_some h
  refine lc (k_call (js := []) (R := [ob v1]) Fun_59 rfl rfl (fun w1 hw ap hl => m_i_bindsOf_ok hw.fro N x1 p1 p2 h1.rsl ph1_0 ph2  hx2)) rfl (fun v3 Φ_2 F2 q2 => ?_)
  obtain ⟨ap2, fr2, v4, rfl, rfl, h2⟩ := q2
  refine lq (q_extract rfl rfl) rfl ?_
  refine lq (q_extract rfl rfl) rfl ?_
  refine lq (q_assign rfl) rfl ?_
  refine lq (q_assign rfl) rfl ?_
  refine WL.nil ?_
  refine WT.ret Try.func17 (resOk.two rfl rfl) (fun w1 hw => ?_)
  cases h
  refine postG_of_St (js := [0]) hw rfl ⟨v4, rfl, rfl, h2⟩
theorem m_l_eqVal_ok {Φ : Hp} {w : World} (hΦ : In Φ w) (N : Nat) (p0 : TVal) (p1 : TVal)   {r : Bool} (h : m_l_eqVal N p0 p1 = some r) :
    Calls Try.prog 111 [.agg [.int .i64 p0.K, .int .i64 p0.N, .string p0.S].toArray, .agg [.int .i64 p1.K, .int .i64 p1.N, .string p1.S].toArray].toArray w (Post (.bool r) w) := by
  refine enter Try.func111 rfl Try.ntmps111 rfl (St.start0 hΦ) ?_
  unfold m_l_eqVal at h
  refine WT.seq ?_
  refine WT.region ?_
  refine ln (n_box (C := #[.int .i64 p0.K, .int .i64 p0.N, .string p0.S]) rfl rfl) rfl (fun b_1 => ?_)
  refine ln (n_box (C := #[.int .i64 p1.K, .int .i64 p1.N, .string p1.S]) rfl rfl) rfl (fun b_2 => ?_)
  refine lq (q_assign rfl) rfl ?_
  refine WL.nil ?_
  refine WT.seq ?_
  refine WT.seq ?_
  refine WT.region ?_
  refine lq (q_fieldAddr Fld_109_0 rfl) rfl ?_
  refine lq (q_load1 T1_3 rfl (fun w1 hw => hw.rgO (i := 1) rfl 0 1 [.int .i64 p0.K] rfl)) rfl ?_
  refine lq (q_fieldAddr Fld_109_0 rfl) rfl ?_
  refine lq (q_load1 T1_3 rfl (fun w1 hw => hw.rgO (i := 0) rfl 0 1 [.int .i64 p1.K] rfl)) rfl ?_
  refine lq (q_neq rfl rfl) rfl ?_
  refine WL.nil ?_
  refine WT.cond rfl (fun c1 => ?_) (fun c1 => ?_)
  · replace h := ite_t h c1
    refine WT.seq ?_
    refine WT.region ?_
    refine lq (q_assign rfl) rfl ?_
    refine WL.nil ?_
    refine WT.ret Try.func111 (resOk.one rfl) (fun w1 hw => ?_)
    cases h
    exact post_of_St hw
  replace h := ite_f h c1
  refine WT.skip ?_
  refine WT.seq ?_
  refine WT.seq ?_
  refine WT.region ?_
  refine lq (q_fieldAddr Fld_109_1 rfl) rfl ?_
  refine lq (q_load1 T1_3 rfl (fun w1 hw => hw.rgO (i := 1) rfl 1 1 [.int .i64 p0.N] rfl)) rfl ?_
  refine lq (q_fieldAddr Fld_109_1 rfl) rfl ?_
  refine lq (q_load1 T1_3 rfl (fun w1 hw => hw.rgO (i := 0) rfl 1 1 [.int .i64 p1.N] rfl)) rfl ?_
  refine lq (q_neq rfl rfl) rfl ?_
  refine WL.nil ?_
  refine WT.cond rfl (fun c2 => ?_) (fun c2 => ?_)
  · replace h := ite_t h c2
    refine WT.seq ?_
    refine WT.region ?_
    refine lq (q_assign rfl) rfl ?_
    refine WL.nil ?_
    refine WT.ret Try.func111 (resOk.one rfl) (fun w1 hw => ?_)
    cases h
    exact post_of_St hw
  replace h := ite_f h c2
  refine WT.skip ?_
  refine WT.seq ?_
  refine WT.seq ?_
  refine WT.region ?_
  refine lq (q_fieldAddr Fld_109_2 rfl) rfl ?_
  refine lq (q_load1 T1_9 rfl (fun w1 hw => hw.rgO (i := 1) rfl 2 1 [.string p0.S] rfl)) rfl ?_
  refine lq (q_fieldAddr Fld_109_2 rfl) rfl ?_
  refine lq (q_load1 T1_9 rfl (fun w1 hw => hw.rgO (i := 0) rfl 2 1 [.string p1.S] rfl)) rfl ?_
  refine lq (q_sne rfl rfl) rfl ?_
  refine WL.nil ?_
  refine WT.cond rfl (fun c3 => ?_) (fun c3 => ?_)
  · replace h := ite_t h c3
    refine WT.seq ?_
    refine WT.region ?_
    refine lq (q_assign rfl) rfl ?_
    refine WL.nil ?_
    refine WT.ret Try.func111 (resOk.one rfl) (fun w1 hw => ?_)
    cases h
    exact post_of_St hw
  replace h := ite_f h c3
  refine WT.skip ?_
  refine WT.seq ?_
  refine WT.region ?_
  refine lq (q_assign rfl) rfl ?_
  refine WL.nil ?_
  refine WT.ret Try.func111 (resOk.one rfl) (fun w1 hw => ?_)
  cases h
  exact post_of_St hw
theorem m_l_eqBind_ok {Φ : Hp} {w : World} (hΦ : In Φ w) (N : Nat) (p0 : TBind) (p1 : TBind)   {r : Bool} (h : m_l_eqBind N p0 p1 = some r) :
    Calls Try.prog 60 [.agg [.string p0.Name, .int .i64 p0.V.K, .int .i64 p0.V.N, .string p0.V.S].toArray, .agg [.string p1.Name, .int .i64 p1.V.K, .int .i64 p1.V.N, .string p1.V.S].toArray].toArray w (Post (.bool r) w) := by
  refine enter Try.func60 rfl Try.ntmps60 rfl (St.start0 hΦ) ?_
  unfold m_l_eqBind at h
  refine WT.seq ?_
  refine WT.region ?_
  refine ln (n_box (C := #[.string p0.Name, .int .i64 p0.V.K, .int .i64 p0.V.N, .string p0.V.S]) rfl rfl) rfl (fun b_1 => ?_)
  refine ln (n_box (C := #[.string p1.Name, .int .i64 p1.V.K, .int .i64 p1.V.N, .string p1.V.S]) rfl rfl) rfl (fun b_2 => ?_)
  refine lq (q_assign rfl) rfl ?_
  refine WL.nil ?_
  refine WT.seq ?_
  refine WT.seq ?_
  refine WT.region ?_
  refine lq (q_fieldAddr Fld_111_0 rfl) rfl ?_
  refine lq (q_load1 T1_9 rfl (fun w1 hw => hw.rgO (i := 1) rfl 0 1 [.string p0.Name] rfl)) rfl ?_
  refine lq (q_fieldAddr Fld_111_0 rfl) rfl ?_
  refine lq (q_load1 T1_9 rfl (fun w1 hw => hw.rgO (i := 0) rfl 0 1 [.string p1.Name] rfl)) rfl ?_
  refine lq (q_sne rfl rfl) rfl ?_
  refine WL.nil ?_
  refine WT.cond rfl (fun c1 => ?_) (fun c1 => ?_)
  · replace h := ite_t h c1
    refine WT.seq ?_
    refine WT.region ?_
    refine lq (q_assign rfl) rfl ?_
    refine WL.nil ?_
    refine WT.ret Try.func60 (resOk.one rfl) (fun w1 hw => ?_)
    cases h
    exact post_of_St hw
  replace h := ite_f h c1
  refine WT.skip ?_
  refine WT.seq ?_
  refine WT.seq ?_
  refine WT.region ?_
  refine lq (q_fieldAddr Fld_111_1 rfl) rfl ?_
  refine lq (q_loadN Tn_109 rfl (fun w1 hw => hw.rgO (i := 1) rfl 1 3 [.int .i64 p0.V.K, .int .i64 p0.V.N, .string p0.V.S] rfl) rfl) rfl ?_
  refine lq (q_fieldAddr Fld_111_1 rfl) rfl ?_
  refine lq (q_loadN Tn_109 rfl (fun w1 hw => hw.rgO (i := 0) rfl 1 3 [.int .i64 p1.V.K, .int .i64 p1.V.N, .string p1.V.S] rfl) rfl) rfl ?_
  obtain ⟨x1, hx1, h⟩ := bind_some h
  refine lp (p_call Fun_111 rfl (fun w1 hw => m_l_eqVal_ok hw.fro N p0.V p1.V hx1)) rfl ?_
  refine lq (q_not rfl) rfl ?_
  refine WL.nil ?_
  refine WT.cond rfl (fun c2 => ?_) (fun c2 => ?_)
  · replace h := ite_t h c2
    refine WT.seq ?_
    refine WT.region ?_
    refine lq (q_assign rfl) rfl ?_
    refine WL.nil ?_
    refine WT.ret Try.func60 (resOk.one rfl) (fun w1 hw => ?_)
    cases h
    exact post_of_St hw
  replace h := ite_f h c2
  refine WT.skip ?_
  refine WT.seq ?_
  refine WT.region ?_
  refine lq (q_assign rfl) rfl ?_
  refine WL.nil ?_
  refine WT.ret Try.func60 (resOk.one rfl) (fun w1 hw => ?_)
  cases h
  exact post_of_St hw
theorem m_l_eqBindS_ok {Φ : Hp} {w : World} (hΦ : In Φ w) (N : Nat) (p0 : (List TBind)) (p1 : (List TBind)) {pv0 : Value} {pG0 : List Nat} {pv1 : Value} {pG1 : List Nat} (ph0 : RSl RTBind 4 Φ pG0 pv0 p0) (ph1 : RSl RTBind 4 Φ pG1 pv1 p1) {r : Bool} (h : m_l_eqBindS N p0 p1 = some r) :
    Calls Try.prog 18 [pv0, pv1].toArray w (Post (.bool r) w) := by
  refine enter Try.func18 rfl Try.ntmps18 rfl (St.start0 hΦ) ?_
  generalize hb0 : (⟨w, [], Φ⟩ : Base) = w0
  unfold m_l_eqBindS at h
  refine WT.seq ?_
  refine WT.region ?_
  refine lq (q_assign rfl) rfl ?_
  refine WL.nil ?_
  refine WT.seq ?_
  refine WT.seq ?_
  refine WT.region ?_
  refine lq (q_move rfl) rfl ?_
  refine lq (q_lenR Sl_44 rfl rfl ph0) rfl ?_
  refine lq (q_move rfl) rfl ?_
  refine lq (q_lenR Sl_44 rfl rfl ph1) rfl ?_
  refine lq (q_neq rfl rfl) rfl ?_
  refine WL.nil ?_
  refine WT.cond rfl (fun c1 => ?_) (fun c1 => ?_)
  · replace h := ite_t h c1
    refine WT.seq ?_
    refine WT.region ?_
    refine lq (q_assign rfl) rfl ?_
    refine WL.nil ?_
    refine WT.ret Try.func18 (resOk.one rfl) (fun w1 hw => ?_)
    subst hb0
    cases h
    exact post_of_St hw
  replace h := ite_f h c1
  refine WT.skip ?_
  refine WT.seq ?_
  refine WT.seq ?_
  refine WT.region ?_
  refine lq (q_assign rfl) rfl ?_
  refine WL.nil ?_
  refine WT.block ?_
  refine WT.loop ?_
  refine WT.mono (l' := [(0, pv0), (1, pv1), (5, .int .i64 0)]) (S' := St w0 Φ [] []) ⟨rfl, rfl, rfl, trivial⟩ (fun w1 hw => (hw.sel (js := []) rfl).selO (js := []) rfl) ?_
  refine loop_ind (σ := Int) (fun s => [(0, pv0), (1, pv1), (5, .int .i64 s)]) (fun s => St w0 Φ [] []) (fun m s => m_l_eqBindS_l1 N p0 p1 m s = some r) (fun s hm => none_ne (show (none : Option (Bool)) = some r from hm)) (fun n1 ih1 s hm => ?_) N (0) h
  revert hm; revert s; intro s1 hm
  have h : m_l_eqBindS_l1 N p0 p1 (n1 + 1) s1 = some r := hm
  show WT _ _ [(0, pv0), (1, pv1), (5, .int .i64 s1)] (St w0 Φ [] [])
  unfold m_l_eqBindS_l1 at h
  refine WT.seq ?_
  refine WT.seq ?_
  refine WT.region ?_
  refine lq (q_move rfl) rfl ?_
  refine lq (q_move rfl) rfl ?_
  refine lq (q_lenR Sl_44 rfl rfl ph0) rfl ?_
  refine lq (q_lss rfl rfl) rfl ?_
  refine WL.nil ?_
  refine WT.cond rfl (fun c2 => ?_) (fun c2 => ?_)
  · replace h := ite_t h c2
    refine WT.skip ?_
    refine WT.seq ?_
    refine WT.block ?_
    refine WT.seq ?_
    refine WT.draw mixed (by kernel_rfl) (fun _ h => h.drew) ?_
    refine qq (q_move rfl) rfl ?_
    refine qq (q_move rfl) rfl ?_
    obtain ⟨x1, hx1, h⟩ := bind_some h
    obtain ⟨cs1, F1, -, g1, hb1, hs1, r1⟩ := ph0.el (idx_some hx1).2.2
    obtain ⟨rfl, -⟩ := r1
    refine qq (q_indexAddr Sl_44 rfl rfl ph0 hx1) rfl ?_
    refine qq (q_loadN Tn_111 rfl (fun w1 hw => (g1.of_eq 0 4 rfl rfl : rg _ _ _ [.string x1.Name, .int .i64 x1.V.K, .int .i64 x1.V.N, .string x1.V.S]).rangeAt hw.fro) rfl) rfl ?_
    refine qq (q_move rfl) rfl ?_
    refine qq (q_move rfl) rfl ?_
    obtain ⟨x2, hx2, h⟩ := bind_some h
    obtain ⟨cs2, F2, -, g2, hb2, hs2, r2⟩ := ph1.el (idx_some hx2).2.2
    obtain ⟨rfl, -⟩ := r2
    refine qq (q_indexAddr Sl_44 rfl rfl ph1 hx2) rfl ?_
    refine qq (q_loadN Tn_111 rfl (fun w1 hw => (g2.of_eq 0 4 rfl rfl : rg _ _ _ [.string x2.Name, .int .i64 x2.V.K, .int .i64 x2.V.N, .string x2.V.S]).rangeAt hw.fro) rfl) rfl ?_
    obtain ⟨x3, hx3, h⟩ := bind_some h
    refine qp (p_call Fun_60 rfl (fun w1 hw => m_l_eqBind_ok hw.fro N x1 x2 hx3)) rfl ?_
    refine qq (q_not rfl) rfl ?_
    refine WQ.nil ?_
    refine WT.cond rfl (fun c3 => ?_) (fun c3 => ?_)
    · replace h := ite_t h c3
      refine WT.seq ?_
      refine WT.region ?_
      refine lq (q_assign rfl) rfl ?_
      refine WL.nil ?_
      refine WT.ret Try.func18 (resOk.one rfl) (fun w1 hw => ?_)
      subst hb0
      cases h
      exact post_of_St hw
    replace h := ite_f h c3
    refine WT.skip ?_
    refine WT.inBlock ?_
    refine WT.region ?_
    refine lq (q_move rfl) rfl ?_
    refine lq (q_add rfl rfl) rfl ?_
    refine lq (q_assign rfl) rfl ?_
    refine WL.nil ?_
    refine WT.inLoop (WT.mono (l' := [(0, pv0), (1, pv1), (5, .int .i64 (IntKind.i64.wrap (s1 + 1)))]) (S' := St w0 Φ [] []) ⟨rfl, rfl, rfl, trivial⟩ (fun w1 hw => (hw.sel (js := []) rfl).selO (js := []) rfl) ?_)
    exact ih1 (IntKind.i64.wrap (s1 + 1)) h
  replace h := ite_f h c2
  refine WT.exit rfl ?_
  refine WT.seq ?_
  refine WT.region ?_
  refine lq (q_assign rfl) rfl ?_
  refine WL.nil ?_
  refine WT.ret Try.func18 (resOk.one rfl) (fun w1 hw => ?_)
  subst hb0
  cases h
  exact post_of_St hw
theorem m_l_eqArg_ok {Φ : Hp} {w : World} (hΦ : In Φ w) (N : Nat) (p0 : TArg) (p1 : TArg)   {r : Bool} (h : m_l_eqArg N p0 p1 = some r) :
    Calls Try.prog 154 [.agg [.int .i64 p0.K, .string p0.S, .int .i64 p0.V.K, .int .i64 p0.V.N, .string p0.V.S].toArray, .agg [.int .i64 p1.K, .string p1.S, .int .i64 p1.V.K, .int .i64 p1.V.N, .string p1.V.S].toArray].toArray w (Post (.bool r) w) := by
  refine enter Try.func154 rfl Try.ntmps154 rfl (St.start0 hΦ) ?_
  unfold m_l_eqArg at h
  refine WT.seq ?_
  refine WT.region ?_
  refine ln (n_box (C := #[.int .i64 p0.K, .string p0.S, .int .i64 p0.V.K, .int .i64 p0.V.N, .string p0.V.S]) rfl rfl) rfl (fun b_1 => ?_)
  refine ln (n_box (C := #[.int .i64 p1.K, .string p1.S, .int .i64 p1.V.K, .int .i64 p1.V.N, .string p1.V.S]) rfl rfl) rfl (fun b_2 => ?_)
  refine lq (q_assign rfl) rfl ?_
  refine WL.nil ?_
  refine WT.seq ?_
  refine WT.seq ?_
  refine WT.region ?_
  refine lq (q_fieldAddr Fld_140_0 rfl) rfl ?_
  refine lq (q_load1 T1_3 rfl (fun w1 hw => hw.rgO (i := 1) rfl 0 1 [.int .i64 p0.K] rfl)) rfl ?_
  refine lq (q_fieldAddr Fld_140_0 rfl) rfl ?_
  refine lq (q_load1 T1_3 rfl (fun w1 hw => hw.rgO (i := 0) rfl 0 1 [.int .i64 p1.K] rfl)) rfl ?_
  refine lq (q_neq rfl rfl) rfl ?_
  refine WL.nil ?_
  refine WT.cond rfl (fun c1 => ?_) (fun c1 => ?_)
  · replace h := ite_t h c1
    refine WT.seq ?_
    refine WT.region ?_
    refine lq (q_assign rfl) rfl ?_
    refine WL.nil ?_
    refine WT.ret Try.func154 (resOk.one rfl) (fun w1 hw => ?_)
    cases h
    exact post_of_St hw
  replace h := ite_f h c1
  refine WT.skip ?_
  refine WT.seq ?_
  refine WT.seq ?_
  refine WT.region ?_
  refine lq (q_fieldAddr Fld_140_1 rfl) rfl ?_
  refine lq (q_load1 T1_9 rfl (fun w1 hw => hw.rgO (i := 1) rfl 1 1 [.string p0.S] rfl)) rfl ?_
  refine lq (q_fieldAddr Fld_140_1 rfl) rfl ?_
  refine lq (q_load1 T1_9 rfl (fun w1 hw => hw.rgO (i := 0) rfl 1 1 [.string p1.S] rfl)) rfl ?_
  refine lq (q_sne rfl rfl) rfl ?_
  refine WL.nil ?_
  refine WT.cond rfl (fun c2 => ?_) (fun c2 => ?_)
  · replace h := ite_t h c2
    refine WT.seq ?_
    refine WT.region ?_
    refine lq (q_assign rfl) rfl ?_
    refine WL.nil ?_
    refine WT.ret Try.func154 (resOk.one rfl) (fun w1 hw => ?_)
    cases h
    exact post_of_St hw
  replace h := ite_f h c2
  refine WT.skip ?_
  refine WT.seq ?_
  refine WT.seq ?_
  refine WT.region ?_
  refine lq (q_fieldAddr Fld_140_2 rfl) rfl ?_
  refine lq (q_loadN Tn_109 rfl (fun w1 hw => hw.rgO (i := 1) rfl 2 3 [.int .i64 p0.V.K, .int .i64 p0.V.N, .string p0.V.S] rfl) rfl) rfl ?_
  refine lq (q_fieldAddr Fld_140_2 rfl) rfl ?_
  refine lq (q_loadN Tn_109 rfl (fun w1 hw => hw.rgO (i := 0) rfl 2 3 [.int .i64 p1.V.K, .int .i64 p1.V.N, .string p1.V.S] rfl) rfl) rfl ?_
  obtain ⟨x1, hx1, h⟩ := bind_some h
  refine lp (p_call Fun_111 rfl (fun w1 hw => m_l_eqVal_ok hw.fro N p0.V p1.V hx1)) rfl ?_
  refine lq (q_not rfl) rfl ?_
  refine WL.nil ?_
  refine WT.cond rfl (fun c3 => ?_) (fun c3 => ?_)
  · replace h := ite_t h c3
    refine WT.seq ?_
    refine WT.region ?_
    refine lq (q_assign rfl) rfl ?_
    refine WL.nil ?_
    refine WT.ret Try.func154 (resOk.one rfl) (fun w1 hw => ?_)
    cases h
    exact post_of_St hw
  replace h := ite_f h c3
  refine WT.skip ?_
  refine WT.seq ?_
  refine WT.region ?_
  refine lq (q_assign rfl) rfl ?_
  refine WL.nil ?_
  refine WT.ret Try.func154 (resOk.one rfl) (fun w1 hw => ?_)
  cases h
  exact post_of_St hw
theorem m_l_eqArgS_ok {Φ : Hp} {w : World} (hΦ : In Φ w) (N : Nat) (p0 : (List TArg)) (p1 : (List TArg)) {pv0 : Value} {pG0 : List Nat} {pv1 : Value} {pG1 : List Nat} (ph0 : RSl RTArg 5 Φ pG0 pv0 p0) (ph1 : RSl RTArg 5 Φ pG1 pv1 p1) {r : Bool} (h : m_l_eqArgS N p0 p1 = some r) :
    Calls Try.prog 153 [pv0, pv1].toArray w (Post (.bool r) w) := by
  refine enter Try.func153 rfl Try.ntmps153 rfl (St.start0 hΦ) ?_
  generalize hb0 : (⟨w, [], Φ⟩ : Base) = w0
  unfold m_l_eqArgS at h
  refine WT.seq ?_
  refine WT.region ?_
  refine lq (q_assign rfl) rfl ?_
  refine WL.nil ?_
  refine WT.seq ?_
  refine WT.seq ?_
  refine WT.region ?_
  refine lq (q_move rfl) rfl ?_
  refine lq (q_lenR Sl_92 rfl rfl ph0) rfl ?_
  refine lq (q_move rfl) rfl ?_
  refine lq (q_lenR Sl_92 rfl rfl ph1) rfl ?_
  refine lq (q_neq rfl rfl) rfl ?_
  refine WL.nil ?_
  refine WT.cond rfl (fun c1 => ?_) (fun c1 => ?_)
  · replace h := ite_t h c1
    refine WT.seq ?_
    refine WT.region ?_
    refine lq (q_assign rfl) rfl ?_
    refine WL.nil ?_
    refine WT.ret Try.func153 (resOk.one rfl) (fun w1 hw => ?_)
    subst hb0
    cases h
    exact post_of_St hw
  replace h := ite_f h c1
  refine WT.skip ?_
  refine WT.seq ?_
  refine WT.seq ?_
  refine WT.region ?_
  refine lq (q_assign rfl) rfl ?_
  refine WL.nil ?_
  refine WT.block ?_
  refine WT.loop ?_
  refine WT.mono (l' := [(0, pv0), (1, pv1), (5, .int .i64 0)]) (S' := St w0 Φ [] []) ⟨rfl, rfl, rfl, trivial⟩ (fun w1 hw => (hw.sel (js := []) rfl).selO (js := []) rfl) ?_
  refine loop_ind (σ := Int) (fun s => [(0, pv0), (1, pv1), (5, .int .i64 s)]) (fun s => St w0 Φ [] []) (fun m s => m_l_eqArgS_l1 N p0 p1 m s = some r) (fun s hm => none_ne (show (none : Option (Bool)) = some r from hm)) (fun n1 ih1 s hm => ?_) N (0) h
  revert hm; revert s; intro s1 hm
  have h : m_l_eqArgS_l1 N p0 p1 (n1 + 1) s1 = some r := hm
  show WT _ _ [(0, pv0), (1, pv1), (5, .int .i64 s1)] (St w0 Φ [] [])
  unfold m_l_eqArgS_l1 at h
  refine WT.seq ?_
  refine WT.seq ?_
  refine WT.region ?_
  refine lq (q_move rfl) rfl ?_
  refine lq (q_move rfl) rfl ?_
  refine lq (q_lenR Sl_92 rfl rfl ph0) rfl ?_
  refine lq (q_lss rfl rfl) rfl ?_
  refine WL.nil ?_
  refine WT.cond rfl (fun c2 => ?_) (fun c2 => ?_)
  · replace h := ite_t h c2
    refine WT.skip ?_
    refine WT.seq ?_
    refine WT.block ?_
    refine WT.seq ?_
    refine WT.draw mixed (by kernel_rfl) (fun _ h => h.drew) ?_
    refine qq (q_move rfl) rfl ?_
    refine qq (q_move rfl) rfl ?_
    obtain ⟨x1, hx1, h⟩ := bind_some h
    obtain ⟨cs1, F1, -, g1, hb1, hs1, r1⟩ := ph0.el (idx_some hx1).2.2
    obtain ⟨rfl, -⟩ := r1
    refine qq (q_indexAddr Sl_92 rfl rfl ph0 hx1) rfl ?_
    refine qq (q_loadN Tn_140 rfl (fun w1 hw => (g1.of_eq 0 5 rfl rfl : rg _ _ _ [.int .i64 x1.K, .string x1.S, .int .i64 x1.V.K, .int .i64 x1.V.N, .string x1.V.S]).rangeAt hw.fro) rfl) rfl ?_
    refine qq (q_move rfl) rfl ?_
    refine qq (q_move rfl) rfl ?_
    obtain ⟨x2, hx2, h⟩ := bind_some h
    obtain ⟨cs2, F2, -, g2, hb2, hs2, r2⟩ := ph1.el (idx_some hx2).2.2
    obtain ⟨rfl, -⟩ := r2
    refine qq (q_indexAddr Sl_92 rfl rfl ph1 hx2) rfl ?_
    refine qq (q_loadN Tn_140 rfl (fun w1 hw => (g2.of_eq 0 5 rfl rfl : rg _ _ _ [.int .i64 x2.K, .string x2.S, .int .i64 x2.V.K, .int .i64 x2.V.N, .string x2.V.S]).rangeAt hw.fro) rfl) rfl ?_
    obtain ⟨x3, hx3, h⟩ := bind_some h
    refine qp (p_call Fun_154 rfl (fun w1 hw => m_l_eqArg_ok hw.fro N x1 x2 hx3)) rfl ?_
    refine qq (q_not rfl) rfl ?_
    refine WQ.nil ?_
    refine WT.cond rfl (fun c3 => ?_) (fun c3 => ?_)
    · replace h := ite_t h c3
      refine WT.seq ?_
      refine WT.region ?_
      refine lq (q_assign rfl) rfl ?_
      refine WL.nil ?_
      refine WT.ret Try.func153 (resOk.one rfl) (fun w1 hw => ?_)
      subst hb0
      cases h
      exact post_of_St hw
    replace h := ite_f h c3
    refine WT.skip ?_
    refine WT.inBlock ?_
    refine WT.region ?_
    refine lq (q_move rfl) rfl ?_
    refine lq (q_add rfl rfl) rfl ?_
    refine lq (q_assign rfl) rfl ?_
    refine WL.nil ?_
    refine WT.inLoop (WT.mono (l' := [(0, pv0), (1, pv1), (5, .int .i64 (IntKind.i64.wrap (s1 + 1)))]) (S' := St w0 Φ [] []) ⟨rfl, rfl, rfl, trivial⟩ (fun w1 hw => (hw.sel (js := []) rfl).selO (js := []) rfl) ?_)
    exact ih1 (IntKind.i64.wrap (s1 + 1)) h
  replace h := ite_f h c2
  refine WT.exit rfl ?_
  refine WT.seq ?_
  refine WT.region ?_
  refine lq (q_assign rfl) rfl ?_
  refine WL.nil ?_
  refine WT.ret Try.func153 (resOk.one rfl) (fun w1 hw => ?_)
  subst hb0
  cases h
  exact post_of_St hw
theorem m_l_eqPat_ok {Φ : Hp} {w : World} (hΦ : In Φ w) (N : Nat) (p0 : TPat) (p1 : TPat) {pv0_0 : Value} {pG0_0 : List Nat} {pv1_0 : Value} {pG1_0 : List Nat} (ph0_0 : RSl RTArg 5 Φ pG0_0 pv0_0 p0.Args) (ph1_0 : RSl RTArg 5 Φ pG1_0 pv1_0 p1.Args) {r : Bool} (h : m_l_eqPat N p0 p1 = some r) :
    Calls Try.prog 112 [.agg [.string p0.Kind, pv0_0, .bool p0.Not].toArray, .agg [.string p1.Kind, pv1_0, .bool p1.Not].toArray].toArray w (Post (.bool r) w) := by
  refine enter Try.func112 rfl Try.ntmps112 rfl (St.start0 hΦ) ?_
  unfold m_l_eqPat at h
  refine WT.seq ?_
  refine WT.region ?_
  refine ln (n_box (C := #[.string p0.Kind, pv0_0, .bool p0.Not]) rfl rfl) rfl (fun b_1 => ?_)
  refine ln (n_box (C := #[.string p1.Kind, pv1_0, .bool p1.Not]) rfl rfl) rfl (fun b_2 => ?_)
  refine lq (q_assign rfl) rfl ?_
  refine WL.nil ?_
  refine WT.seq ?_
  refine WT.seq ?_
  refine WT.region ?_
  refine lq (q_fieldAddr Fld_94_0 rfl) rfl ?_
  refine lq (q_load1 T1_9 rfl (fun w1 hw => hw.rgO (i := 1) rfl 0 1 [.string p0.Kind] rfl)) rfl ?_
  refine lq (q_fieldAddr Fld_94_0 rfl) rfl ?_
  refine lq (q_load1 T1_9 rfl (fun w1 hw => hw.rgO (i := 0) rfl 0 1 [.string p1.Kind] rfl)) rfl ?_
  refine lq (q_sne rfl rfl) rfl ?_
  refine WL.nil ?_
  refine WT.cond rfl (fun c1 => ?_) (fun c1 => ?_)
  · replace h := ite_t h c1
    refine WT.seq ?_
    refine WT.region ?_
    refine lq (q_assign rfl) rfl ?_
    refine WL.nil ?_
    refine WT.ret Try.func112 (resOk.one rfl) (fun w1 hw => ?_)
    cases h
    exact post_of_St hw
  replace h := ite_f h c1
  refine WT.skip ?_
  refine WT.seq ?_
  refine WT.seq ?_
  refine WT.region ?_
  refine lq (q_fieldAddr Fld_94_1 rfl) rfl ?_
  refine lq (q_load1 T1_92 rfl (fun w1 hw => hw.rgO (i := 1) rfl 1 1 [pv0_0] rfl)) rfl ?_
  refine lq (q_fieldAddr Fld_94_1 rfl) rfl ?_
  refine lq (q_load1 T1_92 rfl (fun w1 hw => hw.rgO (i := 0) rfl 1 1 [pv1_0] rfl)) rfl ?_
  obtain ⟨x1, hx1, h⟩ := bind_some h
  refine lp (p_call Fun_153 rfl (fun w1 hw => m_l_eqArgS_ok hw.fro N p0.Args p1.Args ph0_0 ph1_0 hx1)) rfl ?_
  refine lq (q_not rfl) rfl ?_
  refine WL.nil ?_
  refine WT.cond rfl (fun c2 => ?_) (fun c2 => ?_)
  · replace h := ite_t h c2
    refine WT.seq ?_
    refine WT.region ?_
    refine lq (q_assign rfl) rfl ?_
    refine WL.nil ?_
    refine WT.ret Try.func112 (resOk.one rfl) (fun w1 hw => ?_)
    cases h
    exact post_of_St hw
  replace h := ite_f h c2
  refine WT.skip ?_
  refine WT.seq ?_
  refine WT.seq ?_
  refine WT.region ?_
  refine lq (q_fieldAddr Fld_94_2 rfl) rfl ?_
  refine lq (q_load1 T1_4 rfl (fun w1 hw => hw.rgO (i := 1) rfl 2 1 [.bool p0.Not] rfl)) rfl ?_
  refine lq (q_fieldAddr Fld_94_2 rfl) rfl ?_
  refine lq (q_load1 T1_4 rfl (fun w1 hw => hw.rgO (i := 0) rfl 2 1 [.bool p1.Not] rfl)) rfl ?_
  refine lq (q_bne Bo_4 rfl rfl) rfl ?_
  refine WL.nil ?_
  refine WT.cond rfl (fun c3 => ?_) (fun c3 => ?_)
  · replace h := ite_t h c3
    refine WT.seq ?_
    refine WT.region ?_
    refine lq (q_assign rfl) rfl ?_
    refine WL.nil ?_
    refine WT.ret Try.func112 (resOk.one rfl) (fun w1 hw => ?_)
    cases h
    exact post_of_St hw
  replace h := ite_f h c3
  refine WT.skip ?_
  refine WT.seq ?_
  refine WT.region ?_
  refine lq (q_assign rfl) rfl ?_
  refine WL.nil ?_
  refine WT.ret Try.func112 (resOk.one rfl) (fun w1 hw => ?_)
  cases h
  exact post_of_St hw
theorem m_l_eqPatS_ok {Φ : Hp} {w : World} (hΦ : In Φ w) (N : Nat) (p0 : (List TPat)) (p1 : (List TPat)) {pv0 : Value} {pG0 : List Nat} {pv1 : Value} {pG1 : List Nat} (ph0 : RSl RTPat 3 Φ pG0 pv0 p0) (ph1 : RSl RTPat 3 Φ pG1 pv1 p1) {r : Bool} (h : m_l_eqPatS N p0 p1 = some r) :
    Calls Try.prog 61 [pv0, pv1].toArray w (Post (.bool r) w) := by
  refine enter Try.func61 rfl Try.ntmps61 rfl (St.start0 hΦ) ?_
  generalize hb0 : (⟨w, [], Φ⟩ : Base) = w0
  unfold m_l_eqPatS at h
  refine WT.seq ?_
  refine WT.region ?_
  refine lq (q_assign rfl) rfl ?_
  refine WL.nil ?_
  refine WT.seq ?_
  refine WT.seq ?_
  refine WT.region ?_
  refine lq (q_move rfl) rfl ?_
  refine lq (q_lenR Sl_47 rfl rfl ph0) rfl ?_
  refine lq (q_move rfl) rfl ?_
  refine lq (q_lenR Sl_47 rfl rfl ph1) rfl ?_
  refine lq (q_neq rfl rfl) rfl ?_
  refine WL.nil ?_
  refine WT.cond rfl (fun c1 => ?_) (fun c1 => ?_)
  · replace h := ite_t h c1
    refine WT.seq ?_
    refine WT.region ?_
    refine lq (q_assign rfl) rfl ?_
    refine WL.nil ?_
    refine WT.ret Try.func61 (resOk.one rfl) (fun w1 hw => ?_)
    subst hb0
    cases h
    exact post_of_St hw
  replace h := ite_f h c1
  refine WT.skip ?_
  refine WT.seq ?_
  refine WT.seq ?_
  refine WT.region ?_
  refine lq (q_assign rfl) rfl ?_
  refine WL.nil ?_
  refine WT.block ?_
  refine WT.loop ?_
  refine WT.mono (l' := [(0, pv0), (1, pv1), (5, .int .i64 0)]) (S' := St w0 Φ [] []) ⟨rfl, rfl, rfl, trivial⟩ (fun w1 hw => (hw.sel (js := []) rfl).selO (js := []) rfl) ?_
  refine loop_ind (σ := Int) (fun s => [(0, pv0), (1, pv1), (5, .int .i64 s)]) (fun s => St w0 Φ [] []) (fun m s => m_l_eqPatS_l1 N p0 p1 m s = some r) (fun s hm => none_ne (show (none : Option (Bool)) = some r from hm)) (fun n1 ih1 s hm => ?_) N (0) h
  revert hm; revert s; intro s1 hm
  have h : m_l_eqPatS_l1 N p0 p1 (n1 + 1) s1 = some r := hm
  show WT _ _ [(0, pv0), (1, pv1), (5, .int .i64 s1)] (St w0 Φ [] [])
  unfold m_l_eqPatS_l1 at h
  refine WT.seq ?_
  refine WT.seq ?_
  refine WT.region ?_
  refine lq (q_move rfl) rfl ?_
  refine lq (q_move rfl) rfl ?_
  refine lq (q_lenR Sl_47 rfl rfl ph0) rfl ?_
  refine lq (q_lss rfl rfl) rfl ?_
  refine WL.nil ?_
  refine WT.cond rfl (fun c2 => ?_) (fun c2 => ?_)
  · replace h := ite_t h c2
    refine WT.skip ?_
    refine WT.seq ?_
    refine WT.block ?_
    refine WT.seq ?_
    refine WT.draw mixed (by kernel_rfl) (fun _ h => h.drew) ?_
    refine qq (q_move rfl) rfl ?_
    refine qq (q_move rfl) rfl ?_
    obtain ⟨x1, hx1, h⟩ := bind_some h
    obtain ⟨cs1, F1, -, g1, hb1, hs1, r1⟩ := ph0.el (idx_some hx1).2.2
    obtain ⟨v1, G1, rfl, hq1, h1⟩ := r1
    obtain rfl := hq1.symm
    refine qq (q_indexAddr Sl_47 rfl rfl ph0 hx1) rfl ?_
    refine qq (q_loadN Tn_94 rfl (fun w1 hw => (g1.of_eq 0 3 rfl rfl : rg _ _ _ [.string x1.Kind, v1, .bool x1.Not]).rangeAt hw.fro) rfl) rfl ?_
    refine qq (q_move rfl) rfl ?_
    refine qq (q_move rfl) rfl ?_
    obtain ⟨x2, hx2, h⟩ := bind_some h
    obtain ⟨cs2, F2, -, g2, hb2, hs2, r2⟩ := ph1.el (idx_some hx2).2.2
    obtain ⟨v2, G2, rfl, hq2, h2⟩ := r2
    obtain rfl := hq2.symm
    refine qq (q_indexAddr Sl_47 rfl rfl ph1 hx2) rfl ?_
    refine qq (q_loadN Tn_94 rfl (fun w1 hw => (g2.of_eq 0 3 rfl rfl : rg _ _ _ [.string x2.Kind, v2, .bool x2.Not]).rangeAt hw.fro) rfl) rfl ?_
    obtain ⟨x3, hx3, h⟩ := bind_some h
    refine qp (p_call Fun_112 rfl (fun w1 hw => m_l_eqPat_ok hw.fro N x1 x2 h1 h2 hx3)) rfl ?_
    refine qq (q_not rfl) rfl ?_
    refine WQ.nil ?_
    refine WT.cond rfl (fun c3 => ?_) (fun c3 => ?_)
    · replace h := ite_t h c3
      refine WT.seq ?_
      refine WT.region ?_
      refine lq (q_assign rfl) rfl ?_
      refine WL.nil ?_
      refine WT.ret Try.func61 (resOk.one rfl) (fun w1 hw => ?_)
      subst hb0
      cases h
      exact post_of_St hw
    replace h := ite_f h c3
    refine WT.skip ?_
    refine WT.inBlock ?_
    refine WT.region ?_
    refine lq (q_move rfl) rfl ?_
    refine lq (q_add rfl rfl) rfl ?_
    refine lq (q_assign rfl) rfl ?_
    refine WL.nil ?_
    refine WT.inLoop (WT.mono (l' := [(0, pv0), (1, pv1), (5, .int .i64 (IntKind.i64.wrap (s1 + 1)))]) (S' := St w0 Φ [] []) ⟨rfl, rfl, rfl, trivial⟩ (fun w1 hw => (hw.sel (js := []) rfl).selO (js := []) rfl) ?_)
    exact ih1 (IntKind.i64.wrap (s1 + 1)) h
  replace h := ite_f h c2
  refine WT.exit rfl ?_
  refine WT.seq ?_
  refine WT.region ?_
  refine lq (q_assign rfl) rfl ?_
  refine WL.nil ?_
  refine WT.ret Try.func61 (resOk.one rfl) (fun w1 hw => ?_)
  subst hb0
  cases h
  exact post_of_St hw
theorem m_l_eqCond_ok {Φ : Hp} {w : World} (hΦ : In Φ w) (N : Nat) (p0 : TCond) (p1 : TCond)   {r : Bool} (h : m_l_eqCond N p0 p1 = some r) :
    Calls Try.prog 113 [.agg [.int .i64 p0.Op, .int .i64 p0.L.K, .string p0.L.S, .int .i64 p0.L.V.K, .int .i64 p0.L.V.N, .string p0.L.V.S, .int .i64 p0.R.K, .string p0.R.S, .int .i64 p0.R.V.K, .int .i64 p0.R.V.N, .string p0.R.V.S].toArray, .agg [.int .i64 p1.Op, .int .i64 p1.L.K, .string p1.L.S, .int .i64 p1.L.V.K, .int .i64 p1.L.V.N, .string p1.L.V.S, .int .i64 p1.R.K, .string p1.R.S, .int .i64 p1.R.V.K, .int .i64 p1.R.V.N, .string p1.R.V.S].toArray].toArray w (Post (.bool r) w) := by
  refine enter Try.func113 rfl Try.ntmps113 rfl (St.start0 hΦ) ?_
  unfold m_l_eqCond at h
  refine WT.seq ?_
  refine WT.region ?_
  refine ln (n_box (C := #[.int .i64 p0.Op, .int .i64 p0.L.K, .string p0.L.S, .int .i64 p0.L.V.K, .int .i64 p0.L.V.N, .string p0.L.V.S, .int .i64 p0.R.K, .string p0.R.S, .int .i64 p0.R.V.K, .int .i64 p0.R.V.N, .string p0.R.V.S]) rfl rfl) rfl (fun b_1 => ?_)
  refine ln (n_box (C := #[.int .i64 p1.Op, .int .i64 p1.L.K, .string p1.L.S, .int .i64 p1.L.V.K, .int .i64 p1.L.V.N, .string p1.L.V.S, .int .i64 p1.R.K, .string p1.R.S, .int .i64 p1.R.V.K, .int .i64 p1.R.V.N, .string p1.R.V.S]) rfl rfl) rfl (fun b_2 => ?_)
  refine lq (q_assign rfl) rfl ?_
  refine WL.nil ?_
  refine WT.seq ?_
  refine WT.seq ?_
  refine WT.region ?_
  refine lq (q_fieldAddr Fld_142_0 rfl) rfl ?_
  refine lq (q_load1 T1_3 rfl (fun w1 hw => hw.rgO (i := 1) rfl 0 1 [.int .i64 p0.Op] rfl)) rfl ?_
  refine lq (q_fieldAddr Fld_142_0 rfl) rfl ?_
  refine lq (q_load1 T1_3 rfl (fun w1 hw => hw.rgO (i := 0) rfl 0 1 [.int .i64 p1.Op] rfl)) rfl ?_
  refine lq (q_neq rfl rfl) rfl ?_
  refine WL.nil ?_
  refine WT.cond rfl (fun c1 => ?_) (fun c1 => ?_)
  · replace h := ite_t h c1
    refine WT.seq ?_
    refine WT.region ?_
    refine lq (q_assign rfl) rfl ?_
    refine WL.nil ?_
    refine WT.ret Try.func113 (resOk.one rfl) (fun w1 hw => ?_)
    cases h
    exact post_of_St hw
  replace h := ite_f h c1
  refine WT.skip ?_
  refine WT.seq ?_
  refine WT.seq ?_
  refine WT.region ?_
  refine lq (q_fieldAddr Fld_142_1 rfl) rfl ?_
  refine lq (q_loadN Tn_140 rfl (fun w1 hw => hw.rgO (i := 1) rfl 1 5 [.int .i64 p0.L.K, .string p0.L.S, .int .i64 p0.L.V.K, .int .i64 p0.L.V.N, .string p0.L.V.S] rfl) rfl) rfl ?_
  refine lq (q_fieldAddr Fld_142_1 rfl) rfl ?_
  refine lq (q_loadN Tn_140 rfl (fun w1 hw => hw.rgO (i := 0) rfl 1 5 [.int .i64 p1.L.K, .string p1.L.S, .int .i64 p1.L.V.K, .int .i64 p1.L.V.N, .string p1.L.V.S] rfl) rfl) rfl ?_
  obtain ⟨x1, hx1, h⟩ := bind_some h
  refine lp (p_call Fun_154 rfl (fun w1 hw => m_l_eqArg_ok hw.fro N p0.L p1.L hx1)) rfl ?_
  refine lq (q_not rfl) rfl ?_
  refine WL.nil ?_
  refine WT.cond rfl (fun c2 => ?_) (fun c2 => ?_)
  · replace h := ite_t h c2
    refine WT.seq ?_
    refine WT.region ?_
    refine lq (q_assign rfl) rfl ?_
    refine WL.nil ?_
    refine WT.ret Try.func113 (resOk.one rfl) (fun w1 hw => ?_)
    cases h
    exact post_of_St hw
  replace h := ite_f h c2
  refine WT.skip ?_
  refine WT.seq ?_
  refine WT.seq ?_
  refine WT.region ?_
  refine lq (q_fieldAddr Fld_142_2 rfl) rfl ?_
  refine lq (q_loadN Tn_140 rfl (fun w1 hw => hw.rgO (i := 1) rfl 6 5 [.int .i64 p0.R.K, .string p0.R.S, .int .i64 p0.R.V.K, .int .i64 p0.R.V.N, .string p0.R.V.S] rfl) rfl) rfl ?_
  refine lq (q_fieldAddr Fld_142_2 rfl) rfl ?_
  refine lq (q_loadN Tn_140 rfl (fun w1 hw => hw.rgO (i := 0) rfl 6 5 [.int .i64 p1.R.K, .string p1.R.S, .int .i64 p1.R.V.K, .int .i64 p1.R.V.N, .string p1.R.V.S] rfl) rfl) rfl ?_
  obtain ⟨x2, hx2, h⟩ := bind_some h
  refine lp (p_call Fun_154 rfl (fun w1 hw => m_l_eqArg_ok hw.fro N p0.R p1.R hx2)) rfl ?_
  refine lq (q_not rfl) rfl ?_
  refine WL.nil ?_
  refine WT.cond rfl (fun c3 => ?_) (fun c3 => ?_)
  · replace h := ite_t h c3
    refine WT.seq ?_
    refine WT.region ?_
    refine lq (q_assign rfl) rfl ?_
    refine WL.nil ?_
    refine WT.ret Try.func113 (resOk.one rfl) (fun w1 hw => ?_)
    cases h
    exact post_of_St hw
  replace h := ite_f h c3
  refine WT.skip ?_
  refine WT.seq ?_
  refine WT.region ?_
  refine lq (q_assign rfl) rfl ?_
  refine WL.nil ?_
  refine WT.ret Try.func113 (resOk.one rfl) (fun w1 hw => ?_)
  cases h
  exact post_of_St hw
theorem m_l_eqCondS_ok {Φ : Hp} {w : World} (hΦ : In Φ w) (N : Nat) (p0 : (List TCond)) (p1 : (List TCond)) {pv0 : Value} {pG0 : List Nat} {pv1 : Value} {pG1 : List Nat} (ph0 : RSl RTCond 11 Φ pG0 pv0 p0) (ph1 : RSl RTCond 11 Φ pG1 pv1 p1) {r : Bool} (h : m_l_eqCondS N p0 p1 = some r) :
    Calls Try.prog 62 [pv0, pv1].toArray w (Post (.bool r) w) := by
  refine enter Try.func62 rfl Try.ntmps62 rfl (St.start0 hΦ) ?_
  generalize hb0 : (⟨w, [], Φ⟩ : Base) = w0
  unfold m_l_eqCondS at h
  refine WT.seq ?_
  refine WT.region ?_
  refine lq (q_assign rfl) rfl ?_
  refine WL.nil ?_
  refine WT.seq ?_
  refine WT.seq ?_
  refine WT.region ?_
  refine lq (q_move rfl) rfl ?_
  refine lq (q_lenR Sl_48 rfl rfl ph0) rfl ?_
  refine lq (q_move rfl) rfl ?_
  refine lq (q_lenR Sl_48 rfl rfl ph1) rfl ?_
  refine lq (q_neq rfl rfl) rfl ?_
  refine WL.nil ?_
  refine WT.cond rfl (fun c1 => ?_) (fun c1 => ?_)
  · replace h := ite_t h c1
    refine WT.seq ?_
    refine WT.region ?_
    refine lq (q_assign rfl) rfl ?_
    refine WL.nil ?_
    refine WT.ret Try.func62 (resOk.one rfl) (fun w1 hw => ?_)
    subst hb0
    cases h
    exact post_of_St hw
  replace h := ite_f h c1
  refine WT.skip ?_
  refine WT.seq ?_
  refine WT.seq ?_
  refine WT.region ?_
  refine lq (q_assign rfl) rfl ?_
  refine WL.nil ?_
  refine WT.block ?_
  refine WT.loop ?_
  refine WT.mono (l' := [(0, pv0), (1, pv1), (5, .int .i64 0)]) (S' := St w0 Φ [] []) ⟨rfl, rfl, rfl, trivial⟩ (fun w1 hw => (hw.sel (js := []) rfl).selO (js := []) rfl) ?_
  refine loop_ind (σ := Int) (fun s => [(0, pv0), (1, pv1), (5, .int .i64 s)]) (fun s => St w0 Φ [] []) (fun m s => m_l_eqCondS_l1 N p0 p1 m s = some r) (fun s hm => none_ne (show (none : Option (Bool)) = some r from hm)) (fun n1 ih1 s hm => ?_) N (0) h
  revert hm; revert s; intro s1 hm
  have h : m_l_eqCondS_l1 N p0 p1 (n1 + 1) s1 = some r := hm
  show WT _ _ [(0, pv0), (1, pv1), (5, .int .i64 s1)] (St w0 Φ [] [])
  unfold m_l_eqCondS_l1 at h
  refine WT.seq ?_
  refine WT.seq ?_
  refine WT.region ?_
  refine lq (q_move rfl) rfl ?_
  refine lq (q_move rfl) rfl ?_
  refine lq (q_lenR Sl_48 rfl rfl ph0) rfl ?_
  refine lq (q_lss rfl rfl) rfl ?_
  refine WL.nil ?_
  refine WT.cond rfl (fun c2 => ?_) (fun c2 => ?_)
  · replace h := ite_t h c2
    refine WT.skip ?_
    refine WT.seq ?_
    refine WT.block ?_
    refine WT.seq ?_
    refine WT.draw mixed (by kernel_rfl) (fun _ h => h.drew) ?_
    refine qq (q_move rfl) rfl ?_
    refine qq (q_move rfl) rfl ?_
    obtain ⟨x1, hx1, h⟩ := bind_some h
    obtain ⟨cs1, F1, -, g1, hb1, hs1, r1⟩ := ph0.el (idx_some hx1).2.2
    obtain ⟨rfl, -⟩ := r1
    refine qq (q_indexAddr Sl_48 rfl rfl ph0 hx1) rfl ?_
    refine qq (q_loadN Tn_142 rfl (fun w1 hw => (g1.of_eq 0 11 rfl rfl : rg _ _ _ [.int .i64 x1.Op, .int .i64 x1.L.K, .string x1.L.S, .int .i64 x1.L.V.K, .int .i64 x1.L.V.N, .string x1.L.V.S, .int .i64 x1.R.K, .string x1.R.S, .int .i64 x1.R.V.K, .int .i64 x1.R.V.N, .string x1.R.V.S]).rangeAt hw.fro) rfl) rfl ?_
    refine qq (q_move rfl) rfl ?_
    refine qq (q_move rfl) rfl ?_
    obtain ⟨x2, hx2, h⟩ := bind_some h
    obtain ⟨cs2, F2, -, g2, hb2, hs2, r2⟩ := ph1.el (idx_some hx2).2.2
    obtain ⟨rfl, -⟩ := r2
    refine qq (q_indexAddr Sl_48 rfl rfl ph1 hx2) rfl ?_
    refine qq (q_loadN Tn_142 rfl (fun w1 hw => (g2.of_eq 0 11 rfl rfl : rg _ _ _ [.int .i64 x2.Op, .int .i64 x2.L.K, .string x2.L.S, .int .i64 x2.L.V.K, .int .i64 x2.L.V.N, .string x2.L.V.S, .int .i64 x2.R.K, .string x2.R.S, .int .i64 x2.R.V.K, .int .i64 x2.R.V.N, .string x2.R.V.S]).rangeAt hw.fro) rfl) rfl ?_
    obtain ⟨x3, hx3, h⟩ := bind_some h
    refine qp (p_call Fun_113 rfl (fun w1 hw => m_l_eqCond_ok hw.fro N x1 x2 hx3)) rfl ?_
    refine qq (q_not rfl) rfl ?_
    refine WQ.nil ?_
    refine WT.cond rfl (fun c3 => ?_) (fun c3 => ?_)
    · replace h := ite_t h c3
      refine WT.seq ?_
      refine WT.region ?_
      refine lq (q_assign rfl) rfl ?_
      refine WL.nil ?_
      refine WT.ret Try.func62 (resOk.one rfl) (fun w1 hw => ?_)
      subst hb0
      cases h
      exact post_of_St hw
    replace h := ite_f h c3
    refine WT.skip ?_
    refine WT.inBlock ?_
    refine WT.region ?_
    refine lq (q_move rfl) rfl ?_
    refine lq (q_add rfl rfl) rfl ?_
    refine lq (q_assign rfl) rfl ?_
    refine WL.nil ?_
    refine WT.inLoop (WT.mono (l' := [(0, pv0), (1, pv1), (5, .int .i64 (IntKind.i64.wrap (s1 + 1)))]) (S' := St w0 Φ [] []) ⟨rfl, rfl, rfl, trivial⟩ (fun w1 hw => (hw.sel (js := []) rfl).selO (js := []) rfl) ?_)
    exact ih1 (IntKind.i64.wrap (s1 + 1)) h
  replace h := ite_f h c2
  refine WT.exit rfl ?_
  refine WT.seq ?_
  refine WT.region ?_
  refine lq (q_assign rfl) rfl ?_
  refine WL.nil ?_
  refine WT.ret Try.func62 (resOk.one rfl) (fun w1 hw => ?_)
  subst hb0
  cases h
  exact post_of_St hw
theorem m_l_eqExpr_ok {Φ : Hp} {w : World} (hΦ : In Φ w) (N : Nat) (p0 : TExpr) (p1 : TExpr)   {r : Bool} (h : m_l_eqExpr N p0 p1 = some r) :
    Calls Try.prog 176 [.agg [.string p0.Op, .int .i64 p0.L.K, .string p0.L.S, .int .i64 p0.L.V.K, .int .i64 p0.L.V.N, .string p0.L.V.S, .int .i64 p0.R.K, .string p0.R.S, .int .i64 p0.R.V.K, .int .i64 p0.R.V.N, .string p0.R.V.S].toArray, .agg [.string p1.Op, .int .i64 p1.L.K, .string p1.L.S, .int .i64 p1.L.V.K, .int .i64 p1.L.V.N, .string p1.L.V.S, .int .i64 p1.R.K, .string p1.R.S, .int .i64 p1.R.V.K, .int .i64 p1.R.V.N, .string p1.R.V.S].toArray].toArray w (Post (.bool r) w) := by
  refine enter Try.func176 rfl Try.ntmps176 rfl (St.start0 hΦ) ?_
  unfold m_l_eqExpr at h
  refine WT.seq ?_
  refine WT.region ?_
  refine ln (n_box (C := #[.string p0.Op, .int .i64 p0.L.K, .string p0.L.S, .int .i64 p0.L.V.K, .int .i64 p0.L.V.N, .string p0.L.V.S, .int .i64 p0.R.K, .string p0.R.S, .int .i64 p0.R.V.K, .int .i64 p0.R.V.N, .string p0.R.V.S]) rfl rfl) rfl (fun b_1 => ?_)
  refine ln (n_box (C := #[.string p1.Op, .int .i64 p1.L.K, .string p1.L.S, .int .i64 p1.L.V.K, .int .i64 p1.L.V.N, .string p1.L.V.S, .int .i64 p1.R.K, .string p1.R.S, .int .i64 p1.R.V.K, .int .i64 p1.R.V.N, .string p1.R.V.S]) rfl rfl) rfl (fun b_2 => ?_)
  refine lq (q_assign rfl) rfl ?_
  refine WL.nil ?_
  refine WT.seq ?_
  refine WT.seq ?_
  refine WT.region ?_
  refine lq (q_fieldAddr Fld_197_0 rfl) rfl ?_
  refine lq (q_load1 T1_9 rfl (fun w1 hw => hw.rgO (i := 1) rfl 0 1 [.string p0.Op] rfl)) rfl ?_
  refine lq (q_fieldAddr Fld_197_0 rfl) rfl ?_
  refine lq (q_load1 T1_9 rfl (fun w1 hw => hw.rgO (i := 0) rfl 0 1 [.string p1.Op] rfl)) rfl ?_
  refine lq (q_sne rfl rfl) rfl ?_
  refine WL.nil ?_
  refine WT.cond rfl (fun c1 => ?_) (fun c1 => ?_)
  · replace h := ite_t h c1
    refine WT.seq ?_
    refine WT.region ?_
    refine lq (q_assign rfl) rfl ?_
    refine WL.nil ?_
    refine WT.ret Try.func176 (resOk.one rfl) (fun w1 hw => ?_)
    cases h
    exact post_of_St hw
  replace h := ite_f h c1
  refine WT.skip ?_
  refine WT.seq ?_
  refine WT.seq ?_
  refine WT.region ?_
  refine lq (q_fieldAddr Fld_197_1 rfl) rfl ?_
  refine lq (q_loadN Tn_140 rfl (fun w1 hw => hw.rgO (i := 1) rfl 1 5 [.int .i64 p0.L.K, .string p0.L.S, .int .i64 p0.L.V.K, .int .i64 p0.L.V.N, .string p0.L.V.S] rfl) rfl) rfl ?_
  refine lq (q_fieldAddr Fld_197_1 rfl) rfl ?_
  refine lq (q_loadN Tn_140 rfl (fun w1 hw => hw.rgO (i := 0) rfl 1 5 [.int .i64 p1.L.K, .string p1.L.S, .int .i64 p1.L.V.K, .int .i64 p1.L.V.N, .string p1.L.V.S] rfl) rfl) rfl ?_
  obtain ⟨x1, hx1, h⟩ := bind_some h
  refine lp (p_call Fun_154 rfl (fun w1 hw => m_l_eqArg_ok hw.fro N p0.L p1.L hx1)) rfl ?_
  refine lq (q_not rfl) rfl ?_
  refine WL.nil ?_
  refine WT.cond rfl (fun c2 => ?_) (fun c2 => ?_)
  · replace h := ite_t h c2
    refine WT.seq ?_
    refine WT.region ?_
    refine lq (q_assign rfl) rfl ?_
    refine WL.nil ?_
    refine WT.ret Try.func176 (resOk.one rfl) (fun w1 hw => ?_)
    cases h
    exact post_of_St hw
  replace h := ite_f h c2
  refine WT.skip ?_
  refine WT.seq ?_
  refine WT.seq ?_
  refine WT.region ?_
  refine lq (q_fieldAddr Fld_197_2 rfl) rfl ?_
  refine lq (q_loadN Tn_140 rfl (fun w1 hw => hw.rgO (i := 1) rfl 6 5 [.int .i64 p0.R.K, .string p0.R.S, .int .i64 p0.R.V.K, .int .i64 p0.R.V.N, .string p0.R.V.S] rfl) rfl) rfl ?_
  refine lq (q_fieldAddr Fld_197_2 rfl) rfl ?_
  refine lq (q_loadN Tn_140 rfl (fun w1 hw => hw.rgO (i := 0) rfl 6 5 [.int .i64 p1.R.K, .string p1.R.S, .int .i64 p1.R.V.K, .int .i64 p1.R.V.N, .string p1.R.V.S] rfl) rfl) rfl ?_
  obtain ⟨x2, hx2, h⟩ := bind_some h
  refine lp (p_call Fun_154 rfl (fun w1 hw => m_l_eqArg_ok hw.fro N p0.R p1.R hx2)) rfl ?_
  refine lq (q_not rfl) rfl ?_
  refine WL.nil ?_
  refine WT.cond rfl (fun c3 => ?_) (fun c3 => ?_)
  · replace h := ite_t h c3
    refine WT.seq ?_
    refine WT.region ?_
    refine lq (q_assign rfl) rfl ?_
    refine WL.nil ?_
    refine WT.ret Try.func176 (resOk.one rfl) (fun w1 hw => ?_)
    cases h
    exact post_of_St hw
  replace h := ite_f h c3
  refine WT.skip ?_
  refine WT.seq ?_
  refine WT.region ?_
  refine lq (q_assign rfl) rfl ?_
  refine WL.nil ?_
  refine WT.ret Try.func176 (resOk.one rfl) (fun w1 hw => ?_)
  cases h
  exact post_of_St hw
theorem m_l_eqExprS_ok {Φ : Hp} {w : World} (hΦ : In Φ w) (N : Nat) (p0 : (List TExpr)) (p1 : (List TExpr)) {pv0 : Value} {pG0 : List Nat} {pv1 : Value} {pG1 : List Nat} (ph0 : RSl RTExpr 11 Φ pG0 pv0 p0) (ph1 : RSl RTExpr 11 Φ pG1 pv1 p1) {r : Bool} (h : m_l_eqExprS N p0 p1 = some r) :
    Calls Try.prog 155 [pv0, pv1].toArray w (Post (.bool r) w) := by
  refine enter Try.func155 rfl Try.ntmps155 rfl (St.start0 hΦ) ?_
  generalize hb0 : (⟨w, [], Φ⟩ : Base) = w0
  unfold m_l_eqExprS at h
  refine WT.seq ?_
  refine WT.region ?_
  refine lq (q_assign rfl) rfl ?_
  refine WL.nil ?_
  refine WT.seq ?_
  refine WT.seq ?_
  refine WT.region ?_
  refine lq (q_move rfl) rfl ?_
  refine lq (q_lenR Sl_144 rfl rfl ph0) rfl ?_
  refine lq (q_move rfl) rfl ?_
  refine lq (q_lenR Sl_144 rfl rfl ph1) rfl ?_
  refine lq (q_neq rfl rfl) rfl ?_
  refine WL.nil ?_
  refine WT.cond rfl (fun c1 => ?_) (fun c1 => ?_)
  · replace h := ite_t h c1
    refine WT.seq ?_
    refine WT.region ?_
    refine lq (q_assign rfl) rfl ?_
    refine WL.nil ?_
    refine WT.ret Try.func155 (resOk.one rfl) (fun w1 hw => ?_)
    subst hb0
    cases h
    exact post_of_St hw
  replace h := ite_f h c1
  refine WT.skip ?_
  refine WT.seq ?_
  refine WT.seq ?_
  refine WT.region ?_
  refine lq (q_assign rfl) rfl ?_
  refine WL.nil ?_
  refine WT.block ?_
  refine WT.loop ?_
  refine WT.mono (l' := [(0, pv0), (1, pv1), (5, .int .i64 0)]) (S' := St w0 Φ [] []) ⟨rfl, rfl, rfl, trivial⟩ (fun w1 hw => (hw.sel (js := []) rfl).selO (js := []) rfl) ?_
  refine loop_ind (σ := Int) (fun s => [(0, pv0), (1, pv1), (5, .int .i64 s)]) (fun s => St w0 Φ [] []) (fun m s => m_l_eqExprS_l1 N p0 p1 m s = some r) (fun s hm => none_ne (show (none : Option (Bool)) = some r from hm)) (fun n1 ih1 s hm => ?_) N (0) h
  revert hm; revert s; intro s1 hm
  have h : m_l_eqExprS_l1 N p0 p1 (n1 + 1) s1 = some r := hm
  show WT _ _ [(0, pv0), (1, pv1), (5, .int .i64 s1)] (St w0 Φ [] [])
  unfold m_l_eqExprS_l1 at h
  refine WT.seq ?_
  refine WT.seq ?_
  refine WT.region ?_
  refine lq (q_move rfl) rfl ?_
  refine lq (q_move rfl) rfl ?_
  refine lq (q_lenR Sl_144 rfl rfl ph0) rfl ?_
  refine lq (q_lss rfl rfl) rfl ?_
  refine WL.nil ?_
  refine WT.cond rfl (fun c2 => ?_) (fun c2 => ?_)
  · replace h := ite_t h c2
    refine WT.skip ?_
    refine WT.seq ?_
    refine WT.block ?_
    refine WT.seq ?_
    refine WT.draw mixed (by kernel_rfl) (fun _ h => h.drew) ?_
    refine qq (q_move rfl) rfl ?_
    refine qq (q_move rfl) rfl ?_
    obtain ⟨x1, hx1, h⟩ := bind_some h
    obtain ⟨cs1, F1, -, g1, hb1, hs1, r1⟩ := ph0.el (idx_some hx1).2.2
    obtain ⟨rfl, -⟩ := r1
    refine qq (q_indexAddr Sl_144 rfl rfl ph0 hx1) rfl ?_
    refine qq (q_loadN Tn_197 rfl (fun w1 hw => (g1.of_eq 0 11 rfl rfl : rg _ _ _ [.string x1.Op, .int .i64 x1.L.K, .string x1.L.S, .int .i64 x1.L.V.K, .int .i64 x1.L.V.N, .string x1.L.V.S, .int .i64 x1.R.K, .string x1.R.S, .int .i64 x1.R.V.K, .int .i64 x1.R.V.N, .string x1.R.V.S]).rangeAt hw.fro) rfl) rfl ?_
    refine qq (q_move rfl) rfl ?_
    refine qq (q_move rfl) rfl ?_
    obtain ⟨x2, hx2, h⟩ := bind_some h
    obtain ⟨cs2, F2, -, g2, hb2, hs2, r2⟩ := ph1.el (idx_some hx2).2.2
    obtain ⟨rfl, -⟩ := r2
    refine qq (q_indexAddr Sl_144 rfl rfl ph1 hx2) rfl ?_
    refine qq (q_loadN Tn_197 rfl (fun w1 hw => (g2.of_eq 0 11 rfl rfl : rg _ _ _ [.string x2.Op, .int .i64 x2.L.K, .string x2.L.S, .int .i64 x2.L.V.K, .int .i64 x2.L.V.N, .string x2.L.V.S, .int .i64 x2.R.K, .string x2.R.S, .int .i64 x2.R.V.K, .int .i64 x2.R.V.N, .string x2.R.V.S]).rangeAt hw.fro) rfl) rfl ?_
    obtain ⟨x3, hx3, h⟩ := bind_some h
    refine qp (p_call Fun_176 rfl (fun w1 hw => m_l_eqExpr_ok hw.fro N x1 x2 hx3)) rfl ?_
    refine qq (q_not rfl) rfl ?_
    refine WQ.nil ?_
    refine WT.cond rfl (fun c3 => ?_) (fun c3 => ?_)
    · replace h := ite_t h c3
      refine WT.seq ?_
      refine WT.region ?_
      refine lq (q_assign rfl) rfl ?_
      refine WL.nil ?_
      refine WT.ret Try.func155 (resOk.one rfl) (fun w1 hw => ?_)
      subst hb0
      cases h
      exact post_of_St hw
    replace h := ite_f h c3
    refine WT.skip ?_
    refine WT.inBlock ?_
    refine WT.region ?_
    refine lq (q_move rfl) rfl ?_
    refine lq (q_add rfl rfl) rfl ?_
    refine lq (q_assign rfl) rfl ?_
    refine WL.nil ?_
    refine WT.inLoop (WT.mono (l' := [(0, pv0), (1, pv1), (5, .int .i64 (IntKind.i64.wrap (s1 + 1)))]) (S' := St w0 Φ [] []) ⟨rfl, rfl, rfl, trivial⟩ (fun w1 hw => (hw.sel (js := []) rfl).selO (js := []) rfl) ?_)
    exact ih1 (IntKind.i64.wrap (s1 + 1)) h
  replace h := ite_f h c2
  refine WT.exit rfl ?_
  refine WT.seq ?_
  refine WT.region ?_
  refine lq (q_assign rfl) rfl ?_
  refine WL.nil ?_
  refine WT.ret Try.func155 (resOk.one rfl) (fun w1 hw => ?_)
  subst hb0
  cases h
  exact post_of_St hw
theorem m_l_eqAct_ok {Φ : Hp} {w : World} (hΦ : In Φ w) (N : Nat) (p0 : TAct) (p1 : TAct) {pv0_0 : Value} {pG0_0 : List Nat} {pv1_0 : Value} {pG1_0 : List Nat} (ph0_0 : RSl RTExpr 11 Φ pG0_0 pv0_0 p0.Args) (ph1_0 : RSl RTExpr 11 Φ pG1_0 pv1_0 p1.Args) {r : Bool} (h : m_l_eqAct N p0 p1 = some r) :
    Calls Try.prog 114 [.agg [.int .i64 p0.Kind, .string p0.Name, pv0_0, .int .i64 p0.N, .string p0.Undo].toArray, .agg [.int .i64 p1.Kind, .string p1.Name, pv1_0, .int .i64 p1.N, .string p1.Undo].toArray].toArray w (Post (.bool r) w) := by
  refine enter Try.func114 rfl Try.ntmps114 rfl (St.start0 hΦ) ?_
  unfold m_l_eqAct at h
  refine WT.seq ?_
  refine WT.region ?_
  refine ln (n_box (C := #[.int .i64 p0.Kind, .string p0.Name, pv0_0, .int .i64 p0.N, .string p0.Undo]) rfl rfl) rfl (fun b_1 => ?_)
  refine ln (n_box (C := #[.int .i64 p1.Kind, .string p1.Name, pv1_0, .int .i64 p1.N, .string p1.Undo]) rfl rfl) rfl (fun b_2 => ?_)
  refine lq (q_assign rfl) rfl ?_
  refine WL.nil ?_
  refine WT.seq ?_
  refine WT.seq ?_
  refine WT.region ?_
  refine lq (q_fieldAddr Fld_146_0 rfl) rfl ?_
  refine lq (q_load1 T1_3 rfl (fun w1 hw => hw.rgO (i := 1) rfl 0 1 [.int .i64 p0.Kind] rfl)) rfl ?_
  refine lq (q_fieldAddr Fld_146_0 rfl) rfl ?_
  refine lq (q_load1 T1_3 rfl (fun w1 hw => hw.rgO (i := 0) rfl 0 1 [.int .i64 p1.Kind] rfl)) rfl ?_
  refine lq (q_neq rfl rfl) rfl ?_
  refine WL.nil ?_
  refine WT.cond rfl (fun c1 => ?_) (fun c1 => ?_)
  · replace h := ite_t h c1
    refine WT.seq ?_
    refine WT.region ?_
    refine lq (q_assign rfl) rfl ?_
    refine WL.nil ?_
    refine WT.ret Try.func114 (resOk.one rfl) (fun w1 hw => ?_)
    cases h
    exact post_of_St hw
  replace h := ite_f h c1
  refine WT.skip ?_
  refine WT.seq ?_
  refine WT.seq ?_
  refine WT.region ?_
  refine lq (q_fieldAddr Fld_146_1 rfl) rfl ?_
  refine lq (q_load1 T1_9 rfl (fun w1 hw => hw.rgO (i := 1) rfl 1 1 [.string p0.Name] rfl)) rfl ?_
  refine lq (q_fieldAddr Fld_146_1 rfl) rfl ?_
  refine lq (q_load1 T1_9 rfl (fun w1 hw => hw.rgO (i := 0) rfl 1 1 [.string p1.Name] rfl)) rfl ?_
  refine lq (q_sne rfl rfl) rfl ?_
  refine WL.nil ?_
  refine WT.cond rfl (fun c2 => ?_) (fun c2 => ?_)
  · replace h := ite_t h c2
    refine WT.seq ?_
    refine WT.region ?_
    refine lq (q_assign rfl) rfl ?_
    refine WL.nil ?_
    refine WT.ret Try.func114 (resOk.one rfl) (fun w1 hw => ?_)
    cases h
    exact post_of_St hw
  replace h := ite_f h c2
  refine WT.skip ?_
  refine WT.seq ?_
  refine WT.seq ?_
  refine WT.region ?_
  refine lq (q_fieldAddr Fld_146_2 rfl) rfl ?_
  refine lq (q_load1 T1_144 rfl (fun w1 hw => hw.rgO (i := 1) rfl 2 1 [pv0_0] rfl)) rfl ?_
  refine lq (q_fieldAddr Fld_146_2 rfl) rfl ?_
  refine lq (q_load1 T1_144 rfl (fun w1 hw => hw.rgO (i := 0) rfl 2 1 [pv1_0] rfl)) rfl ?_
  obtain ⟨x1, hx1, h⟩ := bind_some h
  refine lp (p_call Fun_155 rfl (fun w1 hw => m_l_eqExprS_ok hw.fro N p0.Args p1.Args ph0_0 ph1_0 hx1)) rfl ?_
  refine lq (q_not rfl) rfl ?_
  refine WL.nil ?_
  refine WT.cond rfl (fun c3 => ?_) (fun c3 => ?_)
  · replace h := ite_t h c3
    refine WT.seq ?_
    refine WT.region ?_
    refine lq (q_assign rfl) rfl ?_
    refine WL.nil ?_
    refine WT.ret Try.func114 (resOk.one rfl) (fun w1 hw => ?_)
    cases h
    exact post_of_St hw
  replace h := ite_f h c3
  refine WT.skip ?_
  refine WT.seq ?_
  refine WT.seq ?_
  refine WT.region ?_
  refine lq (q_fieldAddr Fld_146_3 rfl) rfl ?_
  refine lq (q_load1 T1_3 rfl (fun w1 hw => hw.rgO (i := 1) rfl 3 1 [.int .i64 p0.N] rfl)) rfl ?_
  refine lq (q_fieldAddr Fld_146_3 rfl) rfl ?_
  refine lq (q_load1 T1_3 rfl (fun w1 hw => hw.rgO (i := 0) rfl 3 1 [.int .i64 p1.N] rfl)) rfl ?_
  refine lq (q_neq rfl rfl) rfl ?_
  refine WL.nil ?_
  refine WT.cond rfl (fun c4 => ?_) (fun c4 => ?_)
  · replace h := ite_t h c4
    refine WT.seq ?_
    refine WT.region ?_
    refine lq (q_assign rfl) rfl ?_
    refine WL.nil ?_
    refine WT.ret Try.func114 (resOk.one rfl) (fun w1 hw => ?_)
    cases h
    exact post_of_St hw
  replace h := ite_f h c4
  refine WT.skip ?_
  refine WT.seq ?_
  refine WT.seq ?_
  refine WT.region ?_
  refine lq (q_fieldAddr Fld_146_4 rfl) rfl ?_
  refine lq (q_load1 T1_9 rfl (fun w1 hw => hw.rgO (i := 1) rfl 4 1 [.string p0.Undo] rfl)) rfl ?_
  refine lq (q_fieldAddr Fld_146_4 rfl) rfl ?_
  refine lq (q_load1 T1_9 rfl (fun w1 hw => hw.rgO (i := 0) rfl 4 1 [.string p1.Undo] rfl)) rfl ?_
  refine lq (q_sne rfl rfl) rfl ?_
  refine WL.nil ?_
  refine WT.cond rfl (fun c5 => ?_) (fun c5 => ?_)
  · replace h := ite_t h c5
    refine WT.seq ?_
    refine WT.region ?_
    refine lq (q_assign rfl) rfl ?_
    refine WL.nil ?_
    refine WT.ret Try.func114 (resOk.one rfl) (fun w1 hw => ?_)
    cases h
    exact post_of_St hw
  replace h := ite_f h c5
  refine WT.skip ?_
  refine WT.seq ?_
  refine WT.region ?_
  refine lq (q_assign rfl) rfl ?_
  refine WL.nil ?_
  refine WT.ret Try.func114 (resOk.one rfl) (fun w1 hw => ?_)
  cases h
  exact post_of_St hw
theorem m_l_eqActS_ok {Φ : Hp} {w : World} (hΦ : In Φ w) (N : Nat) (p0 : (List TAct)) (p1 : (List TAct)) {pv0 : Value} {pG0 : List Nat} {pv1 : Value} {pG1 : List Nat} (ph0 : RSl RTAct 5 Φ pG0 pv0 p0) (ph1 : RSl RTAct 5 Φ pG1 pv1 p1) {r : Bool} (h : m_l_eqActS N p0 p1 = some r) :
    Calls Try.prog 63 [pv0, pv1].toArray w (Post (.bool r) w) := by
  refine enter Try.func63 rfl Try.ntmps63 rfl (St.start0 hΦ) ?_
  generalize hb0 : (⟨w, [], Φ⟩ : Base) = w0
  unfold m_l_eqActS at h
  refine WT.seq ?_
  refine WT.region ?_
  refine lq (q_assign rfl) rfl ?_
  refine WL.nil ?_
  refine WT.seq ?_
  refine WT.seq ?_
  refine WT.region ?_
  refine lq (q_move rfl) rfl ?_
  refine lq (q_lenR Sl_49 rfl rfl ph0) rfl ?_
  refine lq (q_move rfl) rfl ?_
  refine lq (q_lenR Sl_49 rfl rfl ph1) rfl ?_
  refine lq (q_neq rfl rfl) rfl ?_
  refine WL.nil ?_
  refine WT.cond rfl (fun c1 => ?_) (fun c1 => ?_)
  · replace h := ite_t h c1
    refine WT.seq ?_
    refine WT.region ?_
    refine lq (q_assign rfl) rfl ?_
    refine WL.nil ?_
    refine WT.ret Try.func63 (resOk.one rfl) (fun w1 hw => ?_)
    subst hb0
    cases h
    exact post_of_St hw
  replace h := ite_f h c1
  refine WT.skip ?_
  refine WT.seq ?_
  refine WT.seq ?_
  refine WT.region ?_
  refine lq (q_assign rfl) rfl ?_
  refine WL.nil ?_
  refine WT.block ?_
  refine WT.loop ?_
  refine WT.mono (l' := [(0, pv0), (1, pv1), (5, .int .i64 0)]) (S' := St w0 Φ [] []) ⟨rfl, rfl, rfl, trivial⟩ (fun w1 hw => (hw.sel (js := []) rfl).selO (js := []) rfl) ?_
  refine loop_ind (σ := Int) (fun s => [(0, pv0), (1, pv1), (5, .int .i64 s)]) (fun s => St w0 Φ [] []) (fun m s => m_l_eqActS_l1 N p0 p1 m s = some r) (fun s hm => none_ne (show (none : Option (Bool)) = some r from hm)) (fun n1 ih1 s hm => ?_) N (0) h
  revert hm; revert s; intro s1 hm
  have h : m_l_eqActS_l1 N p0 p1 (n1 + 1) s1 = some r := hm
  show WT _ _ [(0, pv0), (1, pv1), (5, .int .i64 s1)] (St w0 Φ [] [])
  unfold m_l_eqActS_l1 at h
  refine WT.seq ?_
  refine WT.seq ?_
  refine WT.region ?_
  refine lq (q_move rfl) rfl ?_
  refine lq (q_move rfl) rfl ?_
  refine lq (q_lenR Sl_49 rfl rfl ph0) rfl ?_
  refine lq (q_lss rfl rfl) rfl ?_
  refine WL.nil ?_
  refine WT.cond rfl (fun c2 => ?_) (fun c2 => ?_)
  · replace h := ite_t h c2
    refine WT.skip ?_
    refine WT.seq ?_
    refine WT.block ?_
    refine WT.seq ?_
    refine WT.draw mixed (by kernel_rfl) (fun _ h => h.drew) ?_
    refine qq (q_move rfl) rfl ?_
    refine qq (q_move rfl) rfl ?_
    obtain ⟨x1, hx1, h⟩ := bind_some h
    obtain ⟨cs1, F1, -, g1, hb1, hs1, r1⟩ := ph0.el (idx_some hx1).2.2
    obtain ⟨v1, G1, rfl, hq1, h1⟩ := r1
    obtain rfl := hq1.symm
    refine qq (q_indexAddr Sl_49 rfl rfl ph0 hx1) rfl ?_
    refine qq (q_loadN Tn_146 rfl (fun w1 hw => (g1.of_eq 0 5 rfl rfl : rg _ _ _ [.int .i64 x1.Kind, .string x1.Name, v1, .int .i64 x1.N, .string x1.Undo]).rangeAt hw.fro) rfl) rfl ?_
    refine qq (q_move rfl) rfl ?_
    refine qq (q_move rfl) rfl ?_
    obtain ⟨x2, hx2, h⟩ := bind_some h
    obtain ⟨cs2, F2, -, g2, hb2, hs2, r2⟩ := ph1.el (idx_some hx2).2.2
    obtain ⟨v2, G2, rfl, hq2, h2⟩ := r2
    obtain rfl := hq2.symm
    refine qq (q_indexAddr Sl_49 rfl rfl ph1 hx2) rfl ?_
    refine qq (q_loadN Tn_146 rfl (fun w1 hw => (g2.of_eq 0 5 rfl rfl : rg _ _ _ [.int .i64 x2.Kind, .string x2.Name, v2, .int .i64 x2.N, .string x2.Undo]).rangeAt hw.fro) rfl) rfl ?_
    obtain ⟨x3, hx3, h⟩ := bind_some h
    refine qp (p_call Fun_114 rfl (fun w1 hw => m_l_eqAct_ok hw.fro N x1 x2 h1 h2 hx3)) rfl ?_
    refine qq (q_not rfl) rfl ?_
    refine WQ.nil ?_
    refine WT.cond rfl (fun c3 => ?_) (fun c3 => ?_)
    · replace h := ite_t h c3
      refine WT.seq ?_
      refine WT.region ?_
      refine lq (q_assign rfl) rfl ?_
      refine WL.nil ?_
      refine WT.ret Try.func63 (resOk.one rfl) (fun w1 hw => ?_)
      subst hb0
      cases h
      exact post_of_St hw
    replace h := ite_f h c3
    refine WT.skip ?_
    refine WT.inBlock ?_
    refine WT.region ?_
    refine lq (q_move rfl) rfl ?_
    refine lq (q_add rfl rfl) rfl ?_
    refine lq (q_assign rfl) rfl ?_
    refine WL.nil ?_
    refine WT.inLoop (WT.mono (l' := [(0, pv0), (1, pv1), (5, .int .i64 (IntKind.i64.wrap (s1 + 1)))]) (S' := St w0 Φ [] []) ⟨rfl, rfl, rfl, trivial⟩ (fun w1 hw => (hw.sel (js := []) rfl).selO (js := []) rfl) ?_)
    exact ih1 (IntKind.i64.wrap (s1 + 1)) h
  replace h := ite_f h c2
  refine WT.exit rfl ?_
  refine WT.seq ?_
  refine WT.region ?_
  refine lq (q_assign rfl) rfl ?_
  refine WL.nil ?_
  refine WT.ret Try.func63 (resOk.one rfl) (fun w1 hw => ?_)
  subst hb0
  cases h
  exact post_of_St hw
theorem m_l_eqRule_ok {Φ : Hp} {w : World} (hΦ : In Φ w) (N : Nat) (p0 : TRule) (p1 : TRule) {pv0_0 : Value} {pG0_0 : List Nat} {pv0_1 : Value} {pG0_1 : List Nat} {pv0_2 : Value} {pG0_2 : List Nat} {pv1_0 : Value} {pG1_0 : List Nat} {pv1_1 : Value} {pG1_1 : List Nat} {pv1_2 : Value} {pG1_2 : List Nat} (ph0_0 : RSl RTPat 3 Φ pG0_0 pv0_0 p0.Pats) (ph0_1 : RSl RTCond 11 Φ pG0_1 pv0_1 p0.Conds) (ph0_2 : RSl RTAct 5 Φ pG0_2 pv0_2 p0.Acts) (ph1_0 : RSl RTPat 3 Φ pG1_0 pv1_0 p1.Pats) (ph1_1 : RSl RTCond 11 Φ pG1_1 pv1_1 p1.Conds) (ph1_2 : RSl RTAct 5 Φ pG1_2 pv1_2 p1.Acts) {r : Bool} (h : m_l_eqRule N p0 p1 = some r) :
    Calls Try.prog 19 [.agg [.string p0.Name, .int .i64 p0.Sal, pv0_0, pv0_1, pv0_2].toArray, .agg [.string p1.Name, .int .i64 p1.Sal, pv1_0, pv1_1, pv1_2].toArray].toArray w (Post (.bool r) w) := by
  refine enter Try.func19 rfl Try.ntmps19 rfl (St.start0 hΦ) ?_
  unfold m_l_eqRule at h
  refine WT.seq ?_
  refine WT.region ?_
  refine ln (n_box (C := #[.string p0.Name, .int .i64 p0.Sal, pv0_0, pv0_1, pv0_2]) rfl rfl) rfl (fun b_1 => ?_)
  refine ln (n_box (C := #[.string p1.Name, .int .i64 p1.Sal, pv1_0, pv1_1, pv1_2]) rfl rfl) rfl (fun b_2 => ?_)
  refine lq (q_assign rfl) rfl ?_
  refine WL.nil ?_
  refine WT.seq ?_
  refine WT.seq ?_
  refine WT.region ?_
  refine lq (q_fieldAddr Fld_51_0 rfl) rfl ?_
  refine lq (q_load1 T1_9 rfl (fun w1 hw => hw.rgO (i := 1) rfl 0 1 [.string p0.Name] rfl)) rfl ?_
  refine lq (q_fieldAddr Fld_51_0 rfl) rfl ?_
  refine lq (q_load1 T1_9 rfl (fun w1 hw => hw.rgO (i := 0) rfl 0 1 [.string p1.Name] rfl)) rfl ?_
  refine lq (q_sne rfl rfl) rfl ?_
  refine WL.nil ?_
  refine WT.cond rfl (fun c1 => ?_) (fun c1 => ?_)
  · replace h := ite_t h c1
    refine WT.seq ?_
    refine WT.region ?_
    refine lq (q_assign rfl) rfl ?_
    refine WL.nil ?_
    refine WT.ret Try.func19 (resOk.one rfl) (fun w1 hw => ?_)
    cases h
    exact post_of_St hw
  replace h := ite_f h c1
  refine WT.skip ?_
  refine WT.seq ?_
  refine WT.seq ?_
  refine WT.region ?_
  refine lq (q_fieldAddr Fld_51_1 rfl) rfl ?_
  refine lq (q_load1 T1_3 rfl (fun w1 hw => hw.rgO (i := 1) rfl 1 1 [.int .i64 p0.Sal] rfl)) rfl ?_
  refine lq (q_fieldAddr Fld_51_1 rfl) rfl ?_
  refine lq (q_load1 T1_3 rfl (fun w1 hw => hw.rgO (i := 0) rfl 1 1 [.int .i64 p1.Sal] rfl)) rfl ?_
  refine lq (q_neq rfl rfl) rfl ?_
  refine WL.nil ?_
  refine WT.cond rfl (fun c2 => ?_) (fun c2 => ?_)
  · replace h := ite_t h c2
    refine WT.seq ?_
    refine WT.region ?_
    refine lq (q_assign rfl) rfl ?_
    refine WL.nil ?_
    refine WT.ret Try.func19 (resOk.one rfl) (fun w1 hw => ?_)
    cases h
    exact post_of_St hw
  replace h := ite_f h c2
  refine WT.skip ?_
  refine WT.seq ?_
  refine WT.seq ?_
  refine WT.region ?_
  refine lq (q_fieldAddr Fld_51_2 rfl) rfl ?_
  refine lq (q_load1 T1_47 rfl (fun w1 hw => hw.rgO (i := 1) rfl 2 1 [pv0_0] rfl)) rfl ?_
  refine lq (q_fieldAddr Fld_51_2 rfl) rfl ?_
  refine lq (q_load1 T1_47 rfl (fun w1 hw => hw.rgO (i := 0) rfl 2 1 [pv1_0] rfl)) rfl ?_
  obtain ⟨x1, hx1, h⟩ := bind_some h
  refine lp (p_call Fun_61 rfl (fun w1 hw => m_l_eqPatS_ok hw.fro N p0.Pats p1.Pats ph0_0 ph1_0 hx1)) rfl ?_
  refine lq (q_not rfl) rfl ?_
  refine WL.nil ?_
  refine WT.cond rfl (fun c3 => ?_) (fun c3 => ?_)
  · replace h := ite_t h c3
    refine WT.seq ?_
    refine WT.region ?_
    refine lq (q_assign rfl) rfl ?_
    refine WL.nil ?_
    refine WT.ret Try.func19 (resOk.one rfl) (fun w1 hw => ?_)
    cases h
    exact post_of_St hw
  replace h := ite_f h c3
  refine WT.skip ?_
  refine WT.seq ?_
  refine WT.seq ?_
  refine WT.region ?_
  refine lq (q_fieldAddr Fld_51_3 rfl) rfl ?_
  refine lq (q_load1 T1_48 rfl (fun w1 hw => hw.rgO (i := 1) rfl 3 1 [pv0_1] rfl)) rfl ?_
  refine lq (q_fieldAddr Fld_51_3 rfl) rfl ?_
  refine lq (q_load1 T1_48 rfl (fun w1 hw => hw.rgO (i := 0) rfl 3 1 [pv1_1] rfl)) rfl ?_
  obtain ⟨x2, hx2, h⟩ := bind_some h
  refine lp (p_call Fun_62 rfl (fun w1 hw => m_l_eqCondS_ok hw.fro N p0.Conds p1.Conds ph0_1 ph1_1 hx2)) rfl ?_
  refine lq (q_not rfl) rfl ?_
  refine WL.nil ?_
  refine WT.cond rfl (fun c4 => ?_) (fun c4 => ?_)
  · replace h := ite_t h c4
    refine WT.seq ?_
    refine WT.region ?_
    refine lq (q_assign rfl) rfl ?_
    refine WL.nil ?_
    refine WT.ret Try.func19 (resOk.one rfl) (fun w1 hw => ?_)
    cases h
    exact post_of_St hw
  replace h := ite_f h c4
  refine WT.skip ?_
  refine WT.seq ?_
  refine WT.seq ?_
  refine WT.region ?_
  refine lq (q_fieldAddr Fld_51_4 rfl) rfl ?_
  refine lq (q_load1 T1_49 rfl (fun w1 hw => hw.rgO (i := 1) rfl 4 1 [pv0_2] rfl)) rfl ?_
  refine lq (q_fieldAddr Fld_51_4 rfl) rfl ?_
  refine lq (q_load1 T1_49 rfl (fun w1 hw => hw.rgO (i := 0) rfl 4 1 [pv1_2] rfl)) rfl ?_
  obtain ⟨x3, hx3, h⟩ := bind_some h
  refine lp (p_call Fun_63 rfl (fun w1 hw => m_l_eqActS_ok hw.fro N p0.Acts p1.Acts ph0_2 ph1_2 hx3)) rfl ?_
  refine lq (q_not rfl) rfl ?_
  refine WL.nil ?_
  refine WT.cond rfl (fun c5 => ?_) (fun c5 => ?_)
  · replace h := ite_t h c5
    refine WT.seq ?_
    refine WT.region ?_
    refine lq (q_assign rfl) rfl ?_
    refine WL.nil ?_
    refine WT.ret Try.func19 (resOk.one rfl) (fun w1 hw => ?_)
    cases h
    exact post_of_St hw
  replace h := ite_f h c5
  refine WT.skip ?_
  refine WT.seq ?_
  refine WT.region ?_
  refine lq (q_assign rfl) rfl ?_
  refine WL.nil ?_
  refine WT.ret Try.func19 (resOk.one rfl) (fun w1 hw => ?_)
  cases h
  exact post_of_St hw
theorem m_l_eqValS_ok {Φ : Hp} {w : World} (hΦ : In Φ w) (N : Nat) (p0 : (List TVal)) (p1 : (List TVal)) {pv0 : Value} {pG0 : List Nat} {pv1 : Value} {pG1 : List Nat} (ph0 : RSl RTVal 3 Φ pG0 pv0 p0) (ph1 : RSl RTVal 3 Φ pG1 pv1 p1) {r : Bool} (h : m_l_eqValS N p0 p1 = some r) :
    Calls Try.prog 177 [pv0, pv1].toArray w (Post (.bool r) w) := by
  refine enter Try.func177 rfl Try.ntmps177 rfl (St.start0 hΦ) ?_
  generalize hb0 : (⟨w, [], Φ⟩ : Base) = w0
  unfold m_l_eqValS at h
  refine WT.seq ?_
  refine WT.region ?_
  refine lq (q_assign rfl) rfl ?_
  refine WL.nil ?_
  refine WT.seq ?_
  refine WT.seq ?_
  refine WT.region ?_
  refine lq (q_move rfl) rfl ?_
  refine lq (q_lenR Sl_95 rfl rfl ph0) rfl ?_
  refine lq (q_move rfl) rfl ?_
  refine lq (q_lenR Sl_95 rfl rfl ph1) rfl ?_
  refine lq (q_neq rfl rfl) rfl ?_
  refine WL.nil ?_
  refine WT.cond rfl (fun c1 => ?_) (fun c1 => ?_)
  · replace h := ite_t h c1
    refine WT.seq ?_
    refine WT.region ?_
    refine lq (q_assign rfl) rfl ?_
    refine WL.nil ?_
    refine WT.ret Try.func177 (resOk.one rfl) (fun w1 hw => ?_)
    subst hb0
    cases h
    exact post_of_St hw
  replace h := ite_f h c1
  refine WT.skip ?_
  refine WT.seq ?_
  refine WT.seq ?_
  refine WT.region ?_
  refine lq (q_assign rfl) rfl ?_
  refine WL.nil ?_
  refine WT.block ?_
  refine WT.loop ?_
  refine WT.mono (l' := [(0, pv0), (1, pv1), (5, .int .i64 0)]) (S' := St w0 Φ [] []) ⟨rfl, rfl, rfl, trivial⟩ (fun w1 hw => (hw.sel (js := []) rfl).selO (js := []) rfl) ?_
  refine loop_ind (σ := Int) (fun s => [(0, pv0), (1, pv1), (5, .int .i64 s)]) (fun s => St w0 Φ [] []) (fun m s => m_l_eqValS_l1 N p0 p1 m s = some r) (fun s hm => none_ne (show (none : Option (Bool)) = some r from hm)) (fun n1 ih1 s hm => ?_) N (0) h
  revert hm; revert s; intro s1 hm
  have h : m_l_eqValS_l1 N p0 p1 (n1 + 1) s1 = some r := hm
  show WT _ _ [(0, pv0), (1, pv1), (5, .int .i64 s1)] (St w0 Φ [] [])
  unfold m_l_eqValS_l1 at h
  refine WT.seq ?_
  refine WT.seq ?_
  refine WT.region ?_
  refine lq (q_move rfl) rfl ?_
  refine lq (q_move rfl) rfl ?_
  refine lq (q_lenR Sl_95 rfl rfl ph0) rfl ?_
  refine lq (q_lss rfl rfl) rfl ?_
  refine WL.nil ?_
  refine WT.cond rfl (fun c2 => ?_) (fun c2 => ?_)
  · replace h := ite_t h c2
    refine WT.skip ?_
    refine WT.seq ?_
    refine WT.block ?_
    refine WT.seq ?_
    refine WT.draw mixed (by kernel_rfl) (fun _ h => h.drew) ?_
    refine qq (q_move rfl) rfl ?_
    refine qq (q_move rfl) rfl ?_
    obtain ⟨x1, hx1, h⟩ := bind_some h
    obtain ⟨cs1, F1, -, g1, hb1, hs1, r1⟩ := ph0.el (idx_some hx1).2.2
    obtain ⟨rfl, -⟩ := r1
    refine qq (q_indexAddr Sl_95 rfl rfl ph0 hx1) rfl ?_
    refine qq (q_loadN Tn_109 rfl (fun w1 hw => (g1.of_eq 0 3 rfl rfl : rg _ _ _ [.int .i64 x1.K, .int .i64 x1.N, .string x1.S]).rangeAt hw.fro) rfl) rfl ?_
    refine qq (q_move rfl) rfl ?_
    refine qq (q_move rfl) rfl ?_
    obtain ⟨x2, hx2, h⟩ := bind_some h
    obtain ⟨cs2, F2, -, g2, hb2, hs2, r2⟩ := ph1.el (idx_some hx2).2.2
    obtain ⟨rfl, -⟩ := r2
    refine qq (q_indexAddr Sl_95 rfl rfl ph1 hx2) rfl ?_
    refine qq (q_loadN Tn_109 rfl (fun w1 hw => (g2.of_eq 0 3 rfl rfl : rg _ _ _ [.int .i64 x2.K, .int .i64 x2.N, .string x2.S]).rangeAt hw.fro) rfl) rfl ?_
    obtain ⟨x3, hx3, h⟩ := bind_some h
    refine qp (p_call Fun_111 rfl (fun w1 hw => m_l_eqVal_ok hw.fro N x1 x2 hx3)) rfl ?_
    refine qq (q_not rfl) rfl ?_
    refine WQ.nil ?_
    refine WT.cond rfl (fun c3 => ?_) (fun c3 => ?_)
    · replace h := ite_t h c3
      refine WT.seq ?_
      refine WT.region ?_
      refine lq (q_assign rfl) rfl ?_
      refine WL.nil ?_
      refine WT.ret Try.func177 (resOk.one rfl) (fun w1 hw => ?_)
      subst hb0
      cases h
      exact post_of_St hw
    replace h := ite_f h c3
    refine WT.skip ?_
    refine WT.inBlock ?_
    refine WT.region ?_
    refine lq (q_move rfl) rfl ?_
    refine lq (q_add rfl rfl) rfl ?_
    refine lq (q_assign rfl) rfl ?_
    refine WL.nil ?_
    refine WT.inLoop (WT.mono (l' := [(0, pv0), (1, pv1), (5, .int .i64 (IntKind.i64.wrap (s1 + 1)))]) (S' := St w0 Φ [] []) ⟨rfl, rfl, rfl, trivial⟩ (fun w1 hw => (hw.sel (js := []) rfl).selO (js := []) rfl) ?_)
    exact ih1 (IntKind.i64.wrap (s1 + 1)) h
  replace h := ite_f h c2
  refine WT.exit rfl ?_
  refine WT.seq ?_
  refine WT.region ?_
  refine lq (q_assign rfl) rfl ?_
  refine WL.nil ?_
  refine WT.ret Try.func177 (resOk.one rfl) (fun w1 hw => ?_)
  subst hb0
  cases h
  exact post_of_St hw
theorem m_l_eqFact_ok {Φ : Hp} {w : World} (hΦ : In Φ w) (N : Nat) (p0 : TFact) (p1 : TFact) {pv0_0 : Value} {pG0_0 : List Nat} {pv1_0 : Value} {pG1_0 : List Nat} (ph0_0 : RSl RTVal 3 Φ pG0_0 pv0_0 p0.Fields) (ph1_0 : RSl RTVal 3 Φ pG1_0 pv1_0 p1.Fields) {r : Bool} (h : m_l_eqFact N p0 p1 = some r) :
    Calls Try.prog 156 [.agg [.string p0.Kind, pv0_0].toArray, .agg [.string p1.Kind, pv1_0].toArray].toArray w (Post (.bool r) w) := by
  refine enter Try.func156 rfl Try.ntmps156 rfl (St.start0 hΦ) ?_
  unfold m_l_eqFact at h
  refine WT.seq ?_
  refine WT.region ?_
  refine ln (n_box (C := #[.string p0.Kind, pv0_0]) rfl rfl) rfl (fun b_1 => ?_)
  refine ln (n_box (C := #[.string p1.Kind, pv1_0]) rfl rfl) rfl (fun b_2 => ?_)
  refine lq (q_assign rfl) rfl ?_
  refine WL.nil ?_
  refine WT.seq ?_
  refine WT.seq ?_
  refine WT.region ?_
  refine lq (q_fieldAddr Fld_97_0 rfl) rfl ?_
  refine lq (q_load1 T1_9 rfl (fun w1 hw => hw.rgO (i := 1) rfl 0 1 [.string p0.Kind] rfl)) rfl ?_
  refine lq (q_fieldAddr Fld_97_0 rfl) rfl ?_
  refine lq (q_load1 T1_9 rfl (fun w1 hw => hw.rgO (i := 0) rfl 0 1 [.string p1.Kind] rfl)) rfl ?_
  refine lq (q_sne rfl rfl) rfl ?_
  refine WL.nil ?_
  refine WT.cond rfl (fun c1 => ?_) (fun c1 => ?_)
  · replace h := ite_t h c1
    refine WT.seq ?_
    refine WT.region ?_
    refine lq (q_assign rfl) rfl ?_
    refine WL.nil ?_
    refine WT.ret Try.func156 (resOk.one rfl) (fun w1 hw => ?_)
    cases h
    exact post_of_St hw
  replace h := ite_f h c1
  refine WT.skip ?_
  refine WT.seq ?_
  refine WT.seq ?_
  refine WT.region ?_
  refine lq (q_fieldAddr Fld_97_1 rfl) rfl ?_
  refine lq (q_load1 T1_95 rfl (fun w1 hw => hw.rgO (i := 1) rfl 1 1 [pv0_0] rfl)) rfl ?_
  refine lq (q_fieldAddr Fld_97_1 rfl) rfl ?_
  refine lq (q_load1 T1_95 rfl (fun w1 hw => hw.rgO (i := 0) rfl 1 1 [pv1_0] rfl)) rfl ?_
  obtain ⟨x1, hx1, h⟩ := bind_some h
  refine lp (p_call Fun_177 rfl (fun w1 hw => m_l_eqValS_ok hw.fro N p0.Fields p1.Fields ph0_0 ph1_0 hx1)) rfl ?_
  refine lq (q_not rfl) rfl ?_
  refine WL.nil ?_
  refine WT.cond rfl (fun c2 => ?_) (fun c2 => ?_)
  · replace h := ite_t h c2
    refine WT.seq ?_
    refine WT.region ?_
    refine lq (q_assign rfl) rfl ?_
    refine WL.nil ?_
    refine WT.ret Try.func156 (resOk.one rfl) (fun w1 hw => ?_)
    cases h
    exact post_of_St hw
  replace h := ite_f h c2
  refine WT.skip ?_
  refine WT.seq ?_
  refine WT.region ?_
  refine lq (q_assign rfl) rfl ?_
  refine WL.nil ?_
  refine WT.ret Try.func156 (resOk.one rfl) (fun w1 hw => ?_)
  cases h
  exact post_of_St hw
theorem m_l_eqItem_ok {Φ : Hp} {w : World} (hΦ : In Φ w) (N : Nat) (p0 : TItem) (p1 : TItem) {pv0_0 : Value} {pG0_0 : List Nat} {pv1_0 : Value} {pG1_0 : List Nat} (ph0_0 : RSl RTVal 3 Φ pG0_0 pv0_0 p0.F.Fields) (ph1_0 : RSl RTVal 3 Φ pG1_0 pv1_0 p1.F.Fields) {r : Bool} (h : m_l_eqItem N p0 p1 = some r) :
    Calls Try.prog 115 [.agg [.int .i64 p0.Id, .string p0.F.Kind, pv0_0].toArray, .agg [.int .i64 p1.Id, .string p1.F.Kind, pv1_0].toArray].toArray w (Post (.bool r) w) := by
  refine enter Try.func115 rfl Try.ntmps115 rfl (St.start0 hΦ) ?_
  unfold m_l_eqItem at h
  refine WT.seq ?_
  refine WT.region ?_
  refine ln (n_box (C := #[.int .i64 p0.Id, .string p0.F.Kind, pv0_0]) rfl rfl) rfl (fun b_1 => ?_)
  refine ln (n_box (C := #[.int .i64 p1.Id, .string p1.F.Kind, pv1_0]) rfl rfl) rfl (fun b_2 => ?_)
  refine lq (q_assign rfl) rfl ?_
  refine WL.nil ?_
  refine WT.seq ?_
  refine WT.seq ?_
  refine WT.region ?_
  refine lq (q_fieldAddr Fld_171_0 rfl) rfl ?_
  refine lq (q_load1 T1_3 rfl (fun w1 hw => hw.rgO (i := 1) rfl 0 1 [.int .i64 p0.Id] rfl)) rfl ?_
  refine lq (q_fieldAddr Fld_171_0 rfl) rfl ?_
  refine lq (q_load1 T1_3 rfl (fun w1 hw => hw.rgO (i := 0) rfl 0 1 [.int .i64 p1.Id] rfl)) rfl ?_
  refine lq (q_neq rfl rfl) rfl ?_
  refine WL.nil ?_
  refine WT.cond rfl (fun c1 => ?_) (fun c1 => ?_)
  · replace h := ite_t h c1
    refine WT.seq ?_
    refine WT.region ?_
    refine lq (q_assign rfl) rfl ?_
    refine WL.nil ?_
    refine WT.ret Try.func115 (resOk.one rfl) (fun w1 hw => ?_)
    cases h
    exact post_of_St hw
  replace h := ite_f h c1
  refine WT.skip ?_
  refine WT.seq ?_
  refine WT.seq ?_
  refine WT.region ?_
  refine lq (q_fieldAddr Fld_171_1 rfl) rfl ?_
  refine lq (q_loadN Tn_97 rfl (fun w1 hw => hw.rgO (i := 1) rfl 1 2 [.string p0.F.Kind, pv0_0] rfl) rfl) rfl ?_
  refine lq (q_fieldAddr Fld_171_1 rfl) rfl ?_
  refine lq (q_loadN Tn_97 rfl (fun w1 hw => hw.rgO (i := 0) rfl 1 2 [.string p1.F.Kind, pv1_0] rfl) rfl) rfl ?_
  obtain ⟨x1, hx1, h⟩ := bind_some h
  refine lp (p_call Fun_156 rfl (fun w1 hw => m_l_eqFact_ok hw.fro N p0.F p1.F ph0_0 ph1_0 hx1)) rfl ?_
  refine lq (q_not rfl) rfl ?_
  refine WL.nil ?_
  refine WT.cond rfl (fun c2 => ?_) (fun c2 => ?_)
  · replace h := ite_t h c2
    refine WT.seq ?_
    refine WT.region ?_
    refine lq (q_assign rfl) rfl ?_
    refine WL.nil ?_
    refine WT.ret Try.func115 (resOk.one rfl) (fun w1 hw => ?_)
    cases h
    exact post_of_St hw
  replace h := ite_f h c2
  refine WT.skip ?_
  refine WT.seq ?_
  refine WT.region ?_
  refine lq (q_assign rfl) rfl ?_
  refine WL.nil ?_
  refine WT.ret Try.func115 (resOk.one rfl) (fun w1 hw => ?_)
  cases h
  exact post_of_St hw
theorem m_l_eqItemS_ok {Φ : Hp} {w : World} (hΦ : In Φ w) (N : Nat) (p0 : (List TItem)) (p1 : (List TItem)) {pv0 : Value} {pG0 : List Nat} {pv1 : Value} {pG1 : List Nat} (ph0 : RSl RTItem 3 Φ pG0 pv0 p0) (ph1 : RSl RTItem 3 Φ pG1 pv1 p1) {r : Bool} (h : m_l_eqItemS N p0 p1 = some r) :
    Calls Try.prog 64 [pv0, pv1].toArray w (Post (.bool r) w) := by
  refine enter Try.func64 rfl Try.ntmps64 rfl (St.start0 hΦ) ?_
  generalize hb0 : (⟨w, [], Φ⟩ : Base) = w0
  unfold m_l_eqItemS at h
  refine WT.seq ?_
  refine WT.region ?_
  refine lq (q_assign rfl) rfl ?_
  refine WL.nil ?_
  refine WT.seq ?_
  refine WT.seq ?_
  refine WT.region ?_
  refine lq (q_move rfl) rfl ?_
  refine lq (q_lenR Sl_53 rfl rfl ph0) rfl ?_
  refine lq (q_move rfl) rfl ?_
  refine lq (q_lenR Sl_53 rfl rfl ph1) rfl ?_
  refine lq (q_neq rfl rfl) rfl ?_
  refine WL.nil ?_
  refine WT.cond rfl (fun c1 => ?_) (fun c1 => ?_)
  · replace h := ite_t h c1
    refine WT.seq ?_
    refine WT.region ?_
    refine lq (q_assign rfl) rfl ?_
    refine WL.nil ?_
    refine WT.ret Try.func64 (resOk.one rfl) (fun w1 hw => ?_)
    subst hb0
    cases h
    exact post_of_St hw
  replace h := ite_f h c1
  refine WT.skip ?_
  refine WT.seq ?_
  refine WT.seq ?_
  refine WT.region ?_
  refine lq (q_assign rfl) rfl ?_
  refine WL.nil ?_
  refine WT.block ?_
  refine WT.loop ?_
  refine WT.mono (l' := [(0, pv0), (1, pv1), (5, .int .i64 0)]) (S' := St w0 Φ [] []) ⟨rfl, rfl, rfl, trivial⟩ (fun w1 hw => (hw.sel (js := []) rfl).selO (js := []) rfl) ?_
  refine loop_ind (σ := Int) (fun s => [(0, pv0), (1, pv1), (5, .int .i64 s)]) (fun s => St w0 Φ [] []) (fun m s => m_l_eqItemS_l1 N p0 p1 m s = some r) (fun s hm => none_ne (show (none : Option (Bool)) = some r from hm)) (fun n1 ih1 s hm => ?_) N (0) h
  revert hm; revert s; intro s1 hm
  have h : m_l_eqItemS_l1 N p0 p1 (n1 + 1) s1 = some r := hm
  show WT _ _ [(0, pv0), (1, pv1), (5, .int .i64 s1)] (St w0 Φ [] [])
  unfold m_l_eqItemS_l1 at h
  refine WT.seq ?_
  refine WT.seq ?_
  refine WT.region ?_
  refine lq (q_move rfl) rfl ?_
  refine lq (q_move rfl) rfl ?_
  refine lq (q_lenR Sl_53 rfl rfl ph0) rfl ?_
  refine lq (q_lss rfl rfl) rfl ?_
  refine WL.nil ?_
  refine WT.cond rfl (fun c2 => ?_) (fun c2 => ?_)
  · replace h := ite_t h c2
    refine WT.skip ?_
    refine WT.seq ?_
    refine WT.block ?_
    refine WT.seq ?_
    refine WT.draw mixed (by kernel_rfl) (fun _ h => h.drew) ?_
    refine qq (q_move rfl) rfl ?_
    refine qq (q_move rfl) rfl ?_
    obtain ⟨x1, hx1, h⟩ := bind_some h
    obtain ⟨cs1, F1, -, g1, hb1, hs1, r1⟩ := ph0.el (idx_some hx1).2.2
    obtain ⟨v1, G1, rfl, hq1, h1⟩ := r1
    obtain rfl := hq1.symm
    refine qq (q_indexAddr Sl_53 rfl rfl ph0 hx1) rfl ?_
    refine qq (q_loadN Tn_171 rfl (fun w1 hw => (g1.of_eq 0 3 rfl rfl : rg _ _ _ [.int .i64 x1.Id, .string x1.F.Kind, v1]).rangeAt hw.fro) rfl) rfl ?_
    refine qq (q_move rfl) rfl ?_
    refine qq (q_move rfl) rfl ?_
    obtain ⟨x2, hx2, h⟩ := bind_some h
    obtain ⟨cs2, F2, -, g2, hb2, hs2, r2⟩ := ph1.el (idx_some hx2).2.2
    obtain ⟨v2, G2, rfl, hq2, h2⟩ := r2
    obtain rfl := hq2.symm
    refine qq (q_indexAddr Sl_53 rfl rfl ph1 hx2) rfl ?_
    refine qq (q_loadN Tn_171 rfl (fun w1 hw => (g2.of_eq 0 3 rfl rfl : rg _ _ _ [.int .i64 x2.Id, .string x2.F.Kind, v2]).rangeAt hw.fro) rfl) rfl ?_
    obtain ⟨x3, hx3, h⟩ := bind_some h
    refine qp (p_call Fun_115 rfl (fun w1 hw => m_l_eqItem_ok hw.fro N x1 x2 h1 h2 hx3)) rfl ?_
    refine qq (q_not rfl) rfl ?_
    refine WQ.nil ?_
    refine WT.cond rfl (fun c3 => ?_) (fun c3 => ?_)
    · replace h := ite_t h c3
      refine WT.seq ?_
      refine WT.region ?_
      refine lq (q_assign rfl) rfl ?_
      refine WL.nil ?_
      refine WT.ret Try.func64 (resOk.one rfl) (fun w1 hw => ?_)
      subst hb0
      cases h
      exact post_of_St hw
    replace h := ite_f h c3
    refine WT.skip ?_
    refine WT.inBlock ?_
    refine WT.region ?_
    refine lq (q_move rfl) rfl ?_
    refine lq (q_add rfl rfl) rfl ?_
    refine lq (q_assign rfl) rfl ?_
    refine WL.nil ?_
    refine WT.inLoop (WT.mono (l' := [(0, pv0), (1, pv1), (5, .int .i64 (IntKind.i64.wrap (s1 + 1)))]) (S' := St w0 Φ [] []) ⟨rfl, rfl, rfl, trivial⟩ (fun w1 hw => (hw.sel (js := []) rfl).selO (js := []) rfl) ?_)
    exact ih1 (IntKind.i64.wrap (s1 + 1)) h
  replace h := ite_f h c2
  refine WT.exit rfl ?_
  refine WT.seq ?_
  refine WT.region ?_
  refine lq (q_assign rfl) rfl ?_
  refine WL.nil ?_
  refine WT.ret Try.func64 (resOk.one rfl) (fun w1 hw => ?_)
  subst hb0
  cases h
  exact post_of_St hw
theorem m_l_eqStore_ok {Φ : Hp} {w : World} (hΦ : In Φ w) (N : Nat) (p0 : TStore) (p1 : TStore) {pv0_0 : Value} {pG0_0 : List Nat} {pv1_0 : Value} {pG1_0 : List Nat} (ph0_0 : RSl RTItem 3 Φ pG0_0 pv0_0 p0.Items) (ph1_0 : RSl RTItem 3 Φ pG1_0 pv1_0 p1.Items) {r : Bool} (h : m_l_eqStore N p0 p1 = some r) :
    Calls Try.prog 20 [.agg [pv0_0, .int .i64 p0.Next].toArray, .agg [pv1_0, .int .i64 p1.Next].toArray].toArray w (Post (.bool r) w) := by
  refine enter Try.func20 rfl Try.ntmps20 rfl (St.start0 hΦ) ?_
  unfold m_l_eqStore at h
  refine WT.seq ?_
  refine WT.region ?_
  refine ln (n_box (C := #[pv0_0, .int .i64 p0.Next]) rfl rfl) rfl (fun b_1 => ?_)
  refine ln (n_box (C := #[pv1_0, .int .i64 p1.Next]) rfl rfl) rfl (fun b_2 => ?_)
  refine lq (q_assign rfl) rfl ?_
  refine WL.nil ?_
  refine WT.seq ?_
  refine WT.seq ?_
  refine WT.region ?_
  refine lq (q_fieldAddr Fld_55_0 rfl) rfl ?_
  refine lq (q_load1 T1_53 rfl (fun w1 hw => hw.rgO (i := 1) rfl 0 1 [pv0_0] rfl)) rfl ?_
  refine lq (q_fieldAddr Fld_55_0 rfl) rfl ?_
  refine lq (q_load1 T1_53 rfl (fun w1 hw => hw.rgO (i := 0) rfl 0 1 [pv1_0] rfl)) rfl ?_
  obtain ⟨x1, hx1, h⟩ := bind_some h
  refine lp (p_call Fun_64 rfl (fun w1 hw => m_l_eqItemS_ok hw.fro N p0.Items p1.Items ph0_0 ph1_0 hx1)) rfl ?_
  refine lq (q_not rfl) rfl ?_
  refine WL.nil ?_
  refine WT.cond rfl (fun c1 => ?_) (fun c1 => ?_)
  · replace h := ite_t h c1
    refine WT.seq ?_
    refine WT.region ?_
    refine lq (q_assign rfl) rfl ?_
    refine WL.nil ?_
    refine WT.ret Try.func20 (resOk.one rfl) (fun w1 hw => ?_)
    cases h
    exact post_of_St hw
  replace h := ite_f h c1
  refine WT.skip ?_
  refine WT.seq ?_
  refine WT.seq ?_
  refine WT.region ?_
  refine lq (q_fieldAddr Fld_55_1 rfl) rfl ?_
  refine lq (q_load1 T1_3 rfl (fun w1 hw => hw.rgO (i := 1) rfl 1 1 [.int .i64 p0.Next] rfl)) rfl ?_
  refine lq (q_fieldAddr Fld_55_1 rfl) rfl ?_
  refine lq (q_load1 T1_3 rfl (fun w1 hw => hw.rgO (i := 0) rfl 1 1 [.int .i64 p1.Next] rfl)) rfl ?_
  refine lq (q_neq rfl rfl) rfl ?_
  refine WL.nil ?_
  refine WT.cond rfl (fun c2 => ?_) (fun c2 => ?_)
  · replace h := ite_t h c2
    refine WT.seq ?_
    refine WT.region ?_
    refine lq (q_assign rfl) rfl ?_
    refine WL.nil ?_
    refine WT.ret Try.func20 (resOk.one rfl) (fun w1 hw => ?_)
    cases h
    exact post_of_St hw
  replace h := ite_f h c2
  refine WT.skip ?_
  refine WT.seq ?_
  refine WT.region ?_
  refine lq (q_assign rfl) rfl ?_
  refine WL.nil ?_
  refine WT.ret Try.func20 (resOk.one rfl) (fun w1 hw => ?_)
  cases h
  exact post_of_St hw
theorem m_l_eqIntS_ok {Φ : Hp} {w : World} (hΦ : In Φ w) (N : Nat) (p0 : (List Int)) (p1 : (List Int)) {pv0 : Value} {pG0 : List Nat} {pv1 : Value} {pG1 : List Nat} (ph0 : RSl (RI .i64) 1 Φ pG0 pv0 p0) (ph1 : RSl (RI .i64) 1 Φ pG1 pv1 p1) {r : Bool} (h : m_l_eqIntS N p0 p1 = some r) :
    Calls Try.prog 21 [pv0, pv1].toArray w (Post (.bool r) w) := by
  refine enter Try.func21 rfl Try.ntmps21 rfl (St.start0 hΦ) ?_
  generalize hb0 : (⟨w, [], Φ⟩ : Base) = w0
  unfold m_l_eqIntS at h
  refine WT.seq ?_
  refine WT.region ?_
  refine lq (q_assign rfl) rfl ?_
  refine WL.nil ?_
  refine WT.seq ?_
  refine WT.seq ?_
  refine WT.region ?_
  refine lq (q_move rfl) rfl ?_
  refine lq (q_lenR Sl_41 rfl rfl ph0) rfl ?_
  refine lq (q_move rfl) rfl ?_
  refine lq (q_lenR Sl_41 rfl rfl ph1) rfl ?_
  refine lq (q_neq rfl rfl) rfl ?_
  refine WL.nil ?_
  refine WT.cond rfl (fun c1 => ?_) (fun c1 => ?_)
  · replace h := ite_t h c1
    refine WT.seq ?_
    refine WT.region ?_
    refine lq (q_assign rfl) rfl ?_
    refine WL.nil ?_
    refine WT.ret Try.func21 (resOk.one rfl) (fun w1 hw => ?_)
    subst hb0
    cases h
    exact post_of_St hw
  replace h := ite_f h c1
  refine WT.skip ?_
  refine WT.seq ?_
  refine WT.seq ?_
  refine WT.region ?_
  refine lq (q_assign rfl) rfl ?_
  refine WL.nil ?_
  refine WT.block ?_
  refine WT.loop ?_
  refine WT.mono (l' := [(0, pv0), (1, pv1), (5, .int .i64 0)]) (S' := St w0 Φ [] []) ⟨rfl, rfl, rfl, trivial⟩ (fun w1 hw => (hw.sel (js := []) rfl).selO (js := []) rfl) ?_
  refine loop_ind (σ := Int) (fun s => [(0, pv0), (1, pv1), (5, .int .i64 s)]) (fun s => St w0 Φ [] []) (fun m s => m_l_eqIntS_l1 N p0 p1 m s = some r) (fun s hm => none_ne (show (none : Option (Bool)) = some r from hm)) (fun n1 ih1 s hm => ?_) N (0) h
  revert hm; revert s; intro s1 hm
  have h : m_l_eqIntS_l1 N p0 p1 (n1 + 1) s1 = some r := hm
  show WT _ _ [(0, pv0), (1, pv1), (5, .int .i64 s1)] (St w0 Φ [] [])
  unfold m_l_eqIntS_l1 at h
  refine WT.seq ?_
  refine WT.seq ?_
  refine WT.region ?_
  refine lq (q_move rfl) rfl ?_
  refine lq (q_move rfl) rfl ?_
  refine lq (q_lenR Sl_41 rfl rfl ph0) rfl ?_
  refine lq (q_lss rfl rfl) rfl ?_
  refine WL.nil ?_
  refine WT.cond rfl (fun c2 => ?_) (fun c2 => ?_)
  · replace h := ite_t h c2
    refine WT.skip ?_
    refine WT.seq ?_
    refine WT.block ?_
    refine WT.seq ?_
    refine WT.draw mixed (by kernel_rfl) (fun _ h => h.drew) ?_
    refine qq (q_move rfl) rfl ?_
    refine qq (q_move rfl) rfl ?_
    obtain ⟨x1, hx1, h⟩ := bind_some h
    obtain ⟨cs1, F1, -, g1, hb1, hs1, r1⟩ := ph0.el (idx_some hx1).2.2
    obtain ⟨rfl, -⟩ := r1
    refine qq (q_indexAddr Sl_41 rfl rfl ph0 hx1) rfl ?_
    refine qq (q_load1 T1_3 rfl (fun w1 hw => (g1.of_eq 0 1 rfl rfl : rg _ _ _ [.int .i64 x1]).rangeAt hw.fro)) rfl ?_
    refine qq (q_move rfl) rfl ?_
    refine qq (q_move rfl) rfl ?_
    obtain ⟨x2, hx2, h⟩ := bind_some h
    obtain ⟨cs2, F2, -, g2, hb2, hs2, r2⟩ := ph1.el (idx_some hx2).2.2
    obtain ⟨rfl, -⟩ := r2
    refine qq (q_indexAddr Sl_41 rfl rfl ph1 hx2) rfl ?_
    refine qq (q_load1 T1_3 rfl (fun w1 hw => (g2.of_eq 0 1 rfl rfl : rg _ _ _ [.int .i64 x2]).rangeAt hw.fro)) rfl ?_
    refine qq (q_neq rfl rfl) rfl ?_
    refine WQ.nil ?_
    refine WT.cond rfl (fun c3 => ?_) (fun c3 => ?_)
    · replace h := ite_t h c3
      refine WT.seq ?_
      refine WT.region ?_
      refine lq (q_assign rfl) rfl ?_
      refine WL.nil ?_
      refine WT.ret Try.func21 (resOk.one rfl) (fun w1 hw => ?_)
      subst hb0
      cases h
      exact post_of_St hw
    replace h := ite_f h c3
    refine WT.skip ?_
    refine WT.inBlock ?_
    refine WT.region ?_
    refine lq (q_move rfl) rfl ?_
    refine lq (q_add rfl rfl) rfl ?_
    refine lq (q_assign rfl) rfl ?_
    refine WL.nil ?_
    refine WT.inLoop (WT.mono (l' := [(0, pv0), (1, pv1), (5, .int .i64 (IntKind.i64.wrap (s1 + 1)))]) (S' := St w0 Φ [] []) ⟨rfl, rfl, rfl, trivial⟩ (fun w1 hw => (hw.sel (js := []) rfl).selO (js := []) rfl) ?_)
    exact ih1 (IntKind.i64.wrap (s1 + 1)) h
  replace h := ite_f h c2
  refine WT.exit rfl ?_
  refine WT.seq ?_
  refine WT.region ?_
  refine lq (q_assign rfl) rfl ?_
  refine WL.nil ?_
  refine WT.ret Try.func21 (resOk.one rfl) (fun w1 hw => ?_)
  subst hb0
  cases h
  exact post_of_St hw
theorem m_l_markText_ok {Φ : Hp} {w : World} (hΦ : In Φ w) (N : Nat) (p0 : Int)   {r : ByteArray} (h : m_l_markText N p0 = some r) :
    Calls Try.prog 69 [.int .i64 p0].toArray w (Post (.string r) w) := by
  refine enter Try.func69 rfl Try.ntmps69 rfl (St.start0 hΦ) ?_
  generalize hb0 : (⟨w, [], Φ⟩ : Base) = w0
  unfold m_l_markText at h
  refine WT.seq ?_
  refine WT.region ?_
  refine lq (q_assign rfl) rfl ?_
  refine WL.nil ?_
  refine WT.seq ?_
  refine WT.seq ?_
  refine WT.region ?_
  refine lq (q_move rfl) rfl ?_
  refine lq (q_leq rfl rfl) rfl ?_
  refine WL.nil ?_
  refine WT.cond rfl (fun c1 => ?_) (fun c1 => ?_)
  · replace h := ite_t h c1
    refine WT.seq ?_
    refine WT.region ?_
    refine lq (q_assign rfl) rfl ?_
    refine WL.nil ?_
    refine WT.ret Try.func69 (resOk.one rfl) (fun w1 hw => ?_)
    subst hb0
    cases h
    exact post_of_St hw
  replace h := ite_f h c1
  refine WT.skip ?_
  refine WT.seq ?_
  refine WT.region ?_
  refine lq (q_assign rfl) rfl ?_
  refine WL.nil ?_
  refine WT.seq ?_
  refine WT.block ?_
  refine WT.loop ?_
  refine WT.mono (l' := [(0, .int .i64 p0), (3, .string (⟨#[]⟩ : ByteArray))]) (S' := St w0 Φ [] []) ⟨rfl, rfl, trivial⟩ (fun w1 hw => (hw.sel (js := []) rfl).selO (js := []) rfl) ?_
  refine loop_ind (σ := Hp × Int × ByteArray) (fun s => [(0, .int .i64 s.2.1), (3, .string s.2.2)]) (fun s => St w0 s.1 [] []) (fun m s => m_l_markText_l1 N m s.2.1 s.2.2 = some r) (fun s hm => none_ne (show (none : Option (ByteArray)) = some r from hm)) (fun n1 ih1 s hm => ?_) N (Φ, p0, (⟨#[]⟩ : ByteArray)) h
  obtain ⟨Φ_1, s1, s2⟩ := s
  have h : m_l_markText_l1 N (n1 + 1) s1 s2 = some r := hm
  show WT _ _ [(0, .int .i64 s1), (3, .string s2)] (St w0 Φ_1 [] [])
  unfold m_l_markText_l1 at h
  refine WT.seq ?_
  refine WT.seq ?_
  refine WT.region ?_
  refine lq (q_move rfl) rfl ?_
  refine lq (q_gtr rfl rfl) rfl ?_
  refine WL.nil ?_
  refine WT.cond rfl (fun c2 => ?_) (fun c2 => ?_)
  · replace h := ite_t h c2
    refine WT.skip ?_
    refine WT.block ?_
    refine WT.seq ?_
    refine WT.region ?_
    refine lq (q_move rfl) rfl ?_
    refine lq (q_rem rfl rfl (by decide)) rfl ?_
    refine lq (q_add rfl rfl) rfl ?_
    refine lq (q_convI Ik_3 Ik_5 rfl) rfl ?_
    have rc1 : RC (RI .u8) 1 Φ_1 ([[]] : List (List Nat)) [.int .u8 (IntKind.u8.wrap (IntKind.i64.wrap (48 + (s1.tmod 10))))] ([(IntKind.u8.wrap (IntKind.i64.wrap (48 + (s1.tmod 10))))] : List Int) := RC.cons (c := [.int .u8 (IntKind.u8.wrap (IntKind.i64.wrap (48 + (s1.tmod 10))))]) (cells := []) ⟨rfl, rfl⟩ rfl (RC.nil _ _ _)
    refine le' (e_lit (vs := [(0, .int .u8 (IntKind.u8.wrap (IntKind.i64.wrap (48 + (s1.tmod 10)))))]) (C := #[.int .u8 (IntKind.u8.wrap (IntKind.i64.wrap (48 + (s1.tmod 10))))]) RI.lasts Sl_187 Zr_5 rfl rfl rfl rfl (fill_made MC_5_1 (fill_cons (cells := [.int .u8 0]) (c := [.int .u8 (IntKind.u8.wrap (IntKind.i64.wrap (48 + (s1.tmod 10))))]) (C' := [.int .u8 (IntKind.u8.wrap (IntKind.i64.wrap (48 + (s1.tmod 10))))]) rfl rfl rfl rfl rfl (fill_nil))) rfl rc1 rfl (by simpa using Kw.nil)) rfl (fun v1 Φ_2 D1 q1 => ?_)
    obtain ⟨fr1, h1⟩ := q1
    replace h1 : OSl (RI .u8) 5 1 Φ_2 [] v1 ([(IntKind.u8.wrap (IntKind.i64.wrap (48 + (s1.tmod 10))))] : List Int) := by simpa using h1
    refine lq (q_convB Sl_187 Ik_5 Str_9 rfl h1.rsl) rfl ?_
    refine lq (q_move rfl) rfl ?_
    obtain ⟨z1, hz1, h⟩ := bind_some h
    refine lq (q_cat rfl rfl hz1) rfl ?_
    refine lq (q_assign rfl) rfl ?_
    refine WL.nil ?_
    refine WT.region ?_
    refine lq (q_move rfl) rfl ?_
    refine lq (q_quo rfl rfl (by decide)) rfl ?_
    refine lq (q_assign rfl) rfl ?_
    refine WL.nil ?_
    refine WT.inBlock ?_
    refine WT.inLoop (WT.mono (l' := [(0, .int .i64 (IntKind.i64.wrap (s1.tdiv 10))), (3, .string z1)]) (S' := St w0 Φ_2 [] []) ⟨rfl, rfl, trivial⟩ (fun w1 hw => (hw.sel (js := []) rfl).selO (js := []) rfl) ?_)
    exact ih1 (Φ_2, (IntKind.i64.wrap (s1.tdiv 10)), z1) h
  replace h := ite_f h c2
  refine WT.exit rfl ?_
  refine WT.seq ?_
  refine WT.region ?_
  refine lq (q_move rfl) rfl ?_
  obtain ⟨z2, hz2, h⟩ := bind_some h
  refine lq (q_cat rfl rfl hz2) rfl ?_
  refine lq (q_assign rfl) rfl ?_
  refine WL.nil ?_
  refine WT.ret Try.func69 (resOk.one rfl) (fun w1 hw => ?_)
  subst hb0
  cases h
  exact post_of_St hw
theorem m_l_markArgS_ok {Φ : Hp} {w : World} (hΦ : In Φ w) (N : Nat) (p0 : (List TArg)) (p1 : Int) {pv0 : Value} (ph0 : OSl RTArg 140 5 Φ [] pv0 p0) (hB : [ob pv0].flatten.Nodup) (hlt : ∀ k ∈ [ob pv0].flatten, k < w.heap.size) {r : Int × (List TArg)} (h : m_l_markArgS N p0 p1 = some r) :
    Calls Try.prog 116 [pv0, .int .i64 p1].toArray w (PostG Φ w [ob pv0].flatten (fun Φ' Fs v => v = .int .i64 r.1 ∧ Fs = [ob pv0] ∧ OSl RTArg 140 5 Φ' [] pv0 r.2)) := by
  refine enter Try.func116 rfl Try.ntmps116 rfl (St.start hΦ [ob pv0] hB hlt) ?_
  generalize hb0 : (⟨w, [ob pv0].flatten, Φ⟩ : Base) = w0
  unfold m_l_markArgS at h
  refine WT.seq ?_
  refine WT.region ?_
  refine lq (q_assign rfl) rfl ?_
  refine WL.nil ?_
  refine WT.seq ?_
  refine WT.seq ?_
  refine WT.region ?_
  refine lq (q_assign rfl) rfl ?_
  refine WL.nil ?_
  refine WT.block ?_
  refine WT.loop ?_
  refine WT.mono (l' := [(0, pv0), (1, .int .i64 p1), (5, .int .i64 0)]) (S' := St w0 Φ [] [ob pv0]) ⟨rfl, rfl, rfl, trivial⟩ (fun w1 hw => (hw.sel (js := [0]) rfl).selO (js := []) rfl) ?_
  refine loop_ind (σ := Hp × (List TArg) × Int × Int) (fun s => [(0, pv0), (1, .int .i64 s.2.2.1), (5, .int .i64 s.2.2.2)]) (fun s => St w0 s.1 [] [ob pv0]) (fun m s => m_l_markArgS_l1 N m s.2.1 s.2.2.1 s.2.2.2 = some r ∧ (OSl RTArg 140 5 s.1 [] pv0 s.2.1)) (fun s hm => none_ne (show (none : Option (Int × (List TArg))) = some r from hm.1)) (fun n1 ih1 s hm => ?_) N (Φ, p0, p1, 0) ⟨h, ph0⟩
  obtain ⟨Φ_1, s1, s2, s3⟩ := s
  obtain ⟨h, k1⟩ := hm
  replace h : m_l_markArgS_l1 N (n1 + 1) s1 s2 s3 = some r := h
  replace k1 : OSl RTArg 140 5 Φ_1 [] pv0 s1 := k1
  show WT _ _ [(0, pv0), (1, .int .i64 s2), (5, .int .i64 s3)] (St w0 Φ_1 [] [ob pv0])
  unfold m_l_markArgS_l1 at h
  refine WT.seq ?_
  refine WT.seq ?_
  refine WT.region ?_
  refine lq (q_move rfl) rfl ?_
  refine lq (q_move rfl) rfl ?_
  refine lq (q_lenR Sl_92 rfl rfl k1.rsl) rfl ?_
  refine lq (q_lss rfl rfl) rfl ?_
  refine WL.nil ?_
  refine WT.cond rfl (fun c1 => ?_) (fun c1 => ?_)
  · replace h := ite_t h c1
    refine WT.skip ?_
    refine WT.seq ?_
    refine WT.block ?_
    refine WT.seq ?_
    refine WT.region ?_
    refine lq (q_move rfl) rfl ?_
    refine lq (q_move rfl) rfl ?_
    refine lq (q_move rfl) rfl ?_
    obtain ⟨x1, hx1, h⟩ := bind_some h
    obtain ⟨cs1, F1, h1, r1⟩ := k1.focusF RTArg.flat hx1
    obtain ⟨rfl, -⟩ := r1
    refine lq (q_indexAddrH Sl_92 rfl rfl h1 hx1) rfl ?_
    refine lq (q_fieldAddr Fld_140_0 rfl) rfl ?_
    refine lu (u_setH (js := [0]) (Rr := []) (o := 0) (vs := [.int .i64 s2]) (cs' := [.int .i64 s2, .string x1.S, .int .i64 x1.V.K, .int .i64 x1.V.N, .string x1.V.S]) RTArg.lasts Sz_3 rfl rfl rfl rfl ⟨rfl, trivial⟩ rfl h1 rfl rfl (fun ap => (Dj.nil _))) rfl (fun Φ_2 D2 q1 => ?_)
    obtain ⟨⟨ap1, fr1⟩, h2⟩ := q1
    refine WL.nil ?_
    refine WT.seq ?_
    refine WT.region ?_
    refine lq (q_move rfl) rfl ?_
    refine lq (q_add rfl rfl) rfl ?_
    refine lq (q_assign rfl) rfl ?_
    refine WL.nil ?_
    refine WT.seq ?_
    refine WT.region ?_
    refine lq (q_move rfl) rfl ?_
    refine lq (q_move rfl) rfl ?_
    refine lq (q_move rfl) rfl ?_
    obtain ⟨x2, hx2, h⟩ := bind_some h
    refine lp (p_call Fun_69 rfl (fun w1 hw => m_l_markText_ok hw.fro N (IntKind.i64.wrap (s2 + 1)) hx2)) rfl ?_
    refine lq (q_indexAddrH Sl_92 rfl rfl h2 hx1) rfl ?_
    refine lq (q_fieldAddr Fld_140_1 rfl) rfl ?_
    refine lu (u_setH (js := [0]) (Rr := []) (o := 1) (vs := [.string x2]) (cs' := [.int .i64 s2, .string x2, .int .i64 x1.V.K, .int .i64 x1.V.N, .string x1.V.S]) RTArg.lasts Sz_9 rfl rfl rfl rfl ⟨rfl, trivial⟩ rfl h2 rfl rfl (fun ap => (Dj.nil _))) rfl (fun Φ_3 D3 q2 => ?_)
    obtain ⟨⟨ap2, fr2⟩, h3⟩ := q2
    refine WL.nil ?_
    refine WT.seq ?_
    refine WT.region ?_
    refine lq (q_move rfl) rfl ?_
    refine lq (q_add rfl rfl) rfl ?_
    refine lq (q_assign rfl) rfl ?_
    refine WL.nil ?_
    refine WT.seq ?_
    refine WT.region ?_
    refine lq (q_move rfl) rfl ?_
    refine lq (q_move rfl) rfl ?_
    refine lq (q_move rfl) rfl ?_
    refine lq (q_indexAddrH Sl_92 rfl rfl h3 hx1) rfl ?_
    refine lq (q_fieldAddr Fld_140_2 rfl) rfl ?_
    refine lq (q_fieldAddr Fld_109_0 rfl) rfl ?_
    refine lu (u_setH (js := [0]) (Rr := []) (o := 2) (vs := [.int .i64 (IntKind.i64.wrap ((IntKind.i64.wrap (s2 + 1)) + 1))]) (cs' := [.int .i64 s2, .string x2, .int .i64 (IntKind.i64.wrap ((IntKind.i64.wrap (s2 + 1)) + 1)), .int .i64 x1.V.N, .string x1.V.S]) RTArg.lasts Sz_3 rfl rfl rfl rfl ⟨rfl, trivial⟩ rfl h3 rfl rfl (fun ap => (Dj.nil _))) rfl (fun Φ_4 D4 q3 => ?_)
    obtain ⟨⟨ap3, fr3⟩, h4⟩ := q3
    refine WL.nil ?_
    refine WT.seq ?_
    refine WT.region ?_
    refine lq (q_move rfl) rfl ?_
    refine lq (q_add rfl rfl) rfl ?_
    refine lq (q_assign rfl) rfl ?_
    refine WL.nil ?_
    refine WT.seq ?_
    refine WT.region ?_
    refine lq (q_move rfl) rfl ?_
    refine lq (q_move rfl) rfl ?_
    refine lq (q_move rfl) rfl ?_
    refine lq (q_indexAddrH Sl_92 rfl rfl h4 hx1) rfl ?_
    refine lq (q_fieldAddr Fld_140_2 rfl) rfl ?_
    refine lq (q_fieldAddr Fld_109_1 rfl) rfl ?_
    refine lu (u_setH (js := [0]) (Rr := []) (o := 3) (vs := [.int .i64 (IntKind.i64.wrap ((IntKind.i64.wrap ((IntKind.i64.wrap (s2 + 1)) + 1)) + 1))]) (cs' := [.int .i64 s2, .string x2, .int .i64 (IntKind.i64.wrap ((IntKind.i64.wrap (s2 + 1)) + 1)), .int .i64 (IntKind.i64.wrap ((IntKind.i64.wrap ((IntKind.i64.wrap (s2 + 1)) + 1)) + 1)), .string x1.V.S]) RTArg.lasts Sz_3 rfl rfl rfl rfl ⟨rfl, trivial⟩ rfl h4 rfl rfl (fun ap => (Dj.nil _))) rfl (fun Φ_5 D5 q4 => ?_)
    obtain ⟨⟨ap4, fr4⟩, h5⟩ := q4
    refine WL.nil ?_
    refine WT.seq ?_
    refine WT.region ?_
    refine lq (q_move rfl) rfl ?_
    refine lq (q_add rfl rfl) rfl ?_
    refine lq (q_assign rfl) rfl ?_
    refine WL.nil ?_
    refine WT.seq ?_
    refine WT.region ?_
    refine lq (q_move rfl) rfl ?_
    refine lq (q_move rfl) rfl ?_
    refine lq (q_move rfl) rfl ?_
    obtain ⟨x3, hx3, h⟩ := bind_some h
    refine lp (p_call Fun_69 rfl (fun w1 hw => m_l_markText_ok hw.fro N (IntKind.i64.wrap ((IntKind.i64.wrap ((IntKind.i64.wrap ((IntKind.i64.wrap (s2 + 1)) + 1)) + 1)) + 1)) hx3)) rfl ?_
    refine lq (q_indexAddrH Sl_92 rfl rfl h5 hx1) rfl ?_
    refine lq (q_fieldAddr Fld_140_2 rfl) rfl ?_
    refine lq (q_fieldAddr Fld_109_2 rfl) rfl ?_
    refine lu (u_setH (js := [0]) (Rr := []) (o := 4) (vs := [.string x3]) (cs' := [.int .i64 s2, .string x2, .int .i64 (IntKind.i64.wrap ((IntKind.i64.wrap (s2 + 1)) + 1)), .int .i64 (IntKind.i64.wrap ((IntKind.i64.wrap ((IntKind.i64.wrap (s2 + 1)) + 1)) + 1)), .string x3]) RTArg.lasts Sz_9 rfl rfl rfl rfl ⟨rfl, trivial⟩ rfl h5 rfl rfl (fun ap => (Dj.nil _))) rfl (fun Φ_6 D6 q5 => ?_)
    obtain ⟨⟨ap5, fr5⟩, h6⟩ := q5
    refine WL.nil ?_
    refine WT.region ?_
    refine lq (q_move rfl) rfl ?_
    refine lq (q_add rfl rfl) rfl ?_
    refine lq (q_assign rfl) rfl ?_
    refine WL.nil ?_
    refine WT.inBlock ?_
    refine WT.region ?_
    refine lq (q_move rfl) rfl ?_
    refine lq (q_add rfl rfl) rfl ?_
    refine lq (q_assign rfl) rfl ?_
    refine WL.nil ?_
    have h7 := h6.unfocusF RTArg.flat (cs := [.int .i64 s2, .string x2, .int .i64 (IntKind.i64.wrap ((IntKind.i64.wrap (s2 + 1)) + 1)), .int .i64 (IntKind.i64.wrap ((IntKind.i64.wrap ((IntKind.i64.wrap (s2 + 1)) + 1)) + 1)), .string x3]) (x' := (⟨s2, x2, (⟨IntKind.i64.wrap ((IntKind.i64.wrap (s2 + 1)) + 1), IntKind.i64.wrap ((IntKind.i64.wrap ((IntKind.i64.wrap (s2 + 1)) + 1)) + 1), x3⟩ : TVal)⟩ : TArg)) ⟨rfl, rfl⟩
    refine WT.inLoop (WT.mono (l' := [(0, pv0), (1, .int .i64 (IntKind.i64.wrap ((IntKind.i64.wrap ((IntKind.i64.wrap ((IntKind.i64.wrap ((IntKind.i64.wrap (s2 + 1)) + 1)) + 1)) + 1)) + 1))), (5, .int .i64 (IntKind.i64.wrap (s3 + 1)))]) (S' := St w0 Φ_6 [] [ob pv0]) ⟨rfl, rfl, rfl, trivial⟩ (fun w1 hw => (hw.sel (js := [0]) rfl).selO (js := []) rfl) ?_)
    exact ih1 (Φ_6, (s1.set s3.toNat (⟨s2, x2, (⟨IntKind.i64.wrap ((IntKind.i64.wrap (s2 + 1)) + 1), IntKind.i64.wrap ((IntKind.i64.wrap ((IntKind.i64.wrap (s2 + 1)) + 1)) + 1), x3⟩ : TVal)⟩ : TArg)), IntKind.i64.wrap ((IntKind.i64.wrap ((IntKind.i64.wrap ((IntKind.i64.wrap ((IntKind.i64.wrap (s2 + 1)) + 1)) + 1)) + 1)) + 1), IntKind.i64.wrap (s3 + 1)) ⟨h, h7⟩
  replace h := ite_f h c1
  refine WT.exit rfl ?_
  refine WT.seq ?_
  refine WT.region ?_
  refine lq (q_move rfl) rfl ?_
  refine lq (q_assign rfl) rfl ?_
  refine WL.nil ?_
  refine WT.ret Try.func116 (resOk.one rfl) (fun w1 hw => ?_)
  subst hb0
  cases h
  refine postG_of_St (js := [0]) hw rfl ⟨rfl, rfl, k1⟩
theorem m_l_markPatS_ok {Φ : Hp} {w : World} (hΦ : In Φ w) (N : Nat) (p0 : (List TPat)) (p1 : Int) {pv0 : Value} {pD0 : List Nat} (ph0 : OSl OTPat 94 3 Φ pD0 pv0 p0) (hB : [ob pv0, pD0].flatten.Nodup) (hlt : ∀ k ∈ [ob pv0, pD0].flatten, k < w.heap.size) {r : Int × (List TPat)} (h : m_l_markPatS N p0 p1 = some r) :
    Calls Try.prog 65 [pv0, .int .i64 p1].toArray w (PostG Φ w [ob pv0, pD0].flatten (fun Φ' Fs v => ∃ (Do_0_0 : List Nat), v = .int .i64 r.1 ∧ Fs = [ob pv0, Do_0_0] ∧ OSl OTPat 94 3 Φ' Do_0_0 pv0 r.2)) := by
  refine enter Try.func65 rfl Try.ntmps65 rfl (St.start hΦ [ob pv0, pD0] hB hlt) ?_
  generalize hb0 : (⟨w, [ob pv0, pD0].flatten, Φ⟩ : Base) = w0
  unfold m_l_markPatS at h
  refine WT.seq ?_
  refine WT.region ?_
  refine lq (q_assign rfl) rfl ?_
  refine WL.nil ?_
  refine WT.seq ?_
  refine WT.seq ?_
  refine WT.region ?_
  refine lq (q_assign rfl) rfl ?_
  refine WL.nil ?_
  refine WT.block ?_
  refine WT.loop ?_
  refine WT.mono (l' := [(0, pv0), (1, .int .i64 p1), (5, .int .i64 0)]) (S' := St w0 Φ [] [ob pv0, pD0]) ⟨rfl, rfl, rfl, trivial⟩ (fun w1 hw => (hw.sel (js := [0, 0]) rfl).selO (js := []) rfl) ?_
  refine loop_ind (σ := Hp × (List TPat) × List Nat × Int × Int) (fun s => [(0, pv0), (1, .int .i64 s.2.2.2.1), (5, .int .i64 s.2.2.2.2)]) (fun s => St w0 s.1 [] [ob pv0, s.2.2.1]) (fun m s => m_l_markPatS_l1 N m s.2.1 s.2.2.2.1 s.2.2.2.2 = some r ∧ (OSl OTPat 94 3 s.1 s.2.2.1 pv0 s.2.1)) (fun s hm => none_ne (show (none : Option (Int × (List TPat))) = some r from hm.1)) (fun n1 ih1 s hm => ?_) N (Φ, p0, pD0, p1, 0) ⟨h, ph0⟩
  obtain ⟨Φ_1, s1, D1, s2, s3⟩ := s
  obtain ⟨h, k1⟩ := hm
  replace h : m_l_markPatS_l1 N (n1 + 1) s1 s2 s3 = some r := h
  replace k1 : OSl OTPat 94 3 Φ_1 D1 pv0 s1 := k1
  show WT _ _ [(0, pv0), (1, .int .i64 s2), (5, .int .i64 s3)] (St w0 Φ_1 [] [ob pv0, D1])
  unfold m_l_markPatS_l1 at h
  refine WT.seq ?_
  refine WT.seq ?_
  refine WT.region ?_
  refine lq (q_move rfl) rfl ?_
  refine lq (q_move rfl) rfl ?_
  refine lq (q_lenR Sl_47 rfl rfl (k1.rslG OTPat.gives)) rfl ?_
  refine lq (q_lss rfl rfl) rfl ?_
  refine WL.nil ?_
  refine WT.cond rfl (fun c1 => ?_) (fun c1 => ?_)
  · replace h := ite_t h c1
    refine WT.skip ?_
    refine WT.seq ?_
    refine WT.block ?_
    refine WT.seq ?_
    refine WT.region ?_
    refine lq (q_move rfl) rfl ?_
    refine lq (q_move rfl) rfl ?_
    refine lq (q_move rfl) rfl ?_
    obtain ⟨x1, hx1, h⟩ := bind_some h
    refine lp (p_call Fun_69 rfl (fun w1 hw => m_l_markText_ok hw.fro N s2 hx1)) rfl ?_
    obtain ⟨x2, hx2, h⟩ := bind_some h
    obtain ⟨cs1, F1, D2, h1, r1, kf1, sp1⟩ := k1.focus hx2
    obtain ⟨v1, rfl, rfl, h2⟩ := r1
    refine WL.conv (S' := St w0 Φ_1 [] [ob v1, D2, ob pv0]) (fun w1 hw => hw.re (js := [1]) (Bs := [ob v1, D2]) rfl (by simpa [List.append_assoc] using sp1)) ?_
    refine lq (q_indexAddrH Sl_47 rfl rfl h1 hx2) rfl ?_
    refine lq (q_fieldAddr Fld_94_0 rfl) rfl ?_
    refine lu (u_setH (js := [2]) (Rr := [ob v1, D2]) (o := 0) (vs := [.string x1]) (cs' := [.string x1, v1, .bool x2.Not]) OTPat.lasts Sz_9 rfl rfl rfl rfl ⟨rfl, trivial⟩ rfl h1 rfl rfl (fun ap => (ap.r (i := 1) rfl))) rfl (fun Φ_2 D3 q1 => ?_)
    obtain ⟨⟨ap1, fr1⟩, h3⟩ := q1
    replace h2 := h2.frame RTArg.lasts fr1 (ap1.r (i := 0) rfl) (Dj.nil _)
    refine WL.nil ?_
    refine WT.seq ?_
    refine WT.region ?_
    refine lq (q_move rfl) rfl ?_
    refine lq (q_add rfl rfl) rfl ?_
    refine lq (q_assign rfl) rfl ?_
    refine WL.nil ?_
    refine WT.seq ?_
    refine WT.region ?_
    refine lq (q_move rfl) rfl ?_
    refine lq (q_move rfl) rfl ?_
    refine lq (q_indexAddrH Sl_47 rfl rfl h3 hx2) rfl ?_
    refine lq (q_fieldAddr Fld_94_1 rfl) rfl ?_
    refine lq (q_load1 T1_92 rfl (fun w1 hw => (h3.rg.of_eq 1 1 rfl rfl : rg _ _ _ [v1]).rangeAt hw.fro)) rfl ?_
    refine lq (q_move rfl) rfl ?_
    obtain ⟨x3, hx3, h⟩ := bind_some h
    refine lc (k_call (js := [1]) (R := [ob pv0, D2]) Fun_116 rfl rfl (fun w1 hw ap hl => m_l_markArgS_ok hw.fro N x2.Args (IntKind.i64.wrap (s2 + 1)) h2 ap.nd hl hx3)) rfl (fun v2 Φ_3 F2 q2 => ?_)
    obtain ⟨ap2, fr2, rfl, rfl, h4⟩ := q2
    replace h3 := h3.frame OTPat.lasts fr2 (ap2.r (i := 0) rfl) (ap2.r (i := 1) rfl)
    refine lq (q_assign rfl) rfl ?_
    refine WL.nil ?_
    refine WT.seq ?_
    refine WT.region ?_
    refine lq (q_move rfl) rfl ?_
    refine lq (q_move rfl) rfl ?_
    refine lq (q_move rfl) rfl ?_
    refine lq (q_rem rfl rfl (by decide)) rfl ?_
    refine lq (q_eql rfl rfl) rfl ?_
    refine lq (q_indexAddrH Sl_47 rfl rfl h3 hx2) rfl ?_
    refine lq (q_fieldAddr Fld_94_2 rfl) rfl ?_
    refine lu (u_setH (js := [1]) (Rr := [ob v1, D2]) (o := 2) (vs := [.bool (decide ((x3.1.tmod 3) = 0))]) (cs' := [.string x1, v1, .bool (decide ((x3.1.tmod 3) = 0))]) OTPat.lasts Sz_4 rfl rfl rfl rfl ⟨rfl, trivial⟩ rfl h3 rfl rfl (fun ap => (ap.r (i := 1) rfl))) rfl (fun Φ_4 D4 q3 => ?_)
    obtain ⟨⟨ap3, fr3⟩, h5⟩ := q3
    replace h4 := h4.frame RTArg.lasts fr3 (ap3.r (i := 0) rfl) (Dj.nil _)
    refine WL.nil ?_
    refine WT.region ?_
    refine lq (q_move rfl) rfl ?_
    refine lq (q_add rfl rfl) rfl ?_
    refine lq (q_assign rfl) rfl ?_
    refine WL.nil ?_
    refine WT.inBlock ?_
    refine WT.region ?_
    refine lq (q_move rfl) rfl ?_
    refine lq (q_add rfl rfl) rfl ?_
    refine lq (q_assign rfl) rfl ?_
    refine WL.nil ?_
    have r2 : OTPat Φ_4 _ [.string x1, v1, .bool (decide ((x3.1.tmod 3) = 0))] (⟨x1, x3.2, decide ((x3.1.tmod 3) = 0)⟩ : TPat) := ⟨v1, rfl, rfl, h4⟩
    obtain ⟨D5, h6, sp2⟩ := h5.unfocus r2 (OTPat.knows _ _ _ _ r2)
    refine WT.conv (S' := St w0 Φ_4 [] [D5, ob pv0]) (fun w1 hw => hw.merge (js := [1, 1]) rfl (by simpa [List.append_assoc, ob_nil] using sp2)) ?_
    refine WT.inLoop (WT.mono (l' := [(0, pv0), (1, .int .i64 (IntKind.i64.wrap (x3.1 + 1))), (5, .int .i64 (IntKind.i64.wrap (s3 + 1)))]) (S' := St w0 Φ_4 [] [ob pv0, D5]) ⟨rfl, rfl, rfl, trivial⟩ (fun w1 hw => (hw.sel (js := [1, 0]) rfl).selO (js := []) rfl) ?_)
    exact ih1 (Φ_4, (s1.set s3.toNat (⟨x1, x3.2, decide ((x3.1.tmod 3) = 0)⟩ : TPat)), D5, IntKind.i64.wrap (x3.1 + 1), IntKind.i64.wrap (s3 + 1)) ⟨h, h6⟩
  replace h := ite_f h c1
  refine WT.exit rfl ?_
  refine WT.seq ?_
  refine WT.region ?_
  refine lq (q_move rfl) rfl ?_
  refine lq (q_assign rfl) rfl ?_
  refine WL.nil ?_
  refine WT.ret Try.func65 (resOk.one rfl) (fun w1 hw => ?_)
  subst hb0
  cases h
  refine postG_of_St (js := [0, 0]) hw rfl ⟨D1, rfl, rfl, k1⟩
theorem m_l_markCondS_ok {Φ : Hp} {w : World} (hΦ : In Φ w) (N : Nat) (p0 : (List TCond)) (p1 : Int) {pv0 : Value} (ph0 : OSl RTCond 142 11 Φ [] pv0 p0) (hB : [ob pv0].flatten.Nodup) (hlt : ∀ k ∈ [ob pv0].flatten, k < w.heap.size) {r : Int × (List TCond)} (h : m_l_markCondS N p0 p1 = some r) :
    Calls Try.prog 66 [pv0, .int .i64 p1].toArray w (PostG Φ w [ob pv0].flatten (fun Φ' Fs v => v = .int .i64 r.1 ∧ Fs = [ob pv0] ∧ OSl RTCond 142 11 Φ' [] pv0 r.2)) := by
  refine enter Try.func66 rfl Try.ntmps66 rfl (St.start hΦ [ob pv0] hB hlt) ?_
  generalize hb0 : (⟨w, [ob pv0].flatten, Φ⟩ : Base) = w0
  unfold m_l_markCondS at h
  refine WT.seq ?_
  refine WT.region ?_
  refine lq (q_assign rfl) rfl ?_
  refine WL.nil ?_
  refine WT.seq ?_
  refine WT.seq ?_
  refine WT.region ?_
  refine lq (q_assign rfl) rfl ?_
  refine WL.nil ?_
  refine WT.block ?_
  refine WT.loop ?_
  refine WT.mono (l' := [(0, pv0), (1, .int .i64 p1), (5, .int .i64 0)]) (S' := St w0 Φ [] [ob pv0]) ⟨rfl, rfl, rfl, trivial⟩ (fun w1 hw => (hw.sel (js := [0]) rfl).selO (js := []) rfl) ?_
  refine loop_ind (σ := Hp × (List TCond) × Int × Int) (fun s => [(0, pv0), (1, .int .i64 s.2.2.1), (5, .int .i64 s.2.2.2)]) (fun s => St w0 s.1 [] [ob pv0]) (fun m s => m_l_markCondS_l1 N m s.2.1 s.2.2.1 s.2.2.2 = some r ∧ (OSl RTCond 142 11 s.1 [] pv0 s.2.1)) (fun s hm => none_ne (show (none : Option (Int × (List TCond))) = some r from hm.1)) (fun n1 ih1 s hm => ?_) N (Φ, p0, p1, 0) ⟨h, ph0⟩
  obtain ⟨Φ_1, s1, s2, s3⟩ := s
  obtain ⟨h, k1⟩ := hm
  replace h : m_l_markCondS_l1 N (n1 + 1) s1 s2 s3 = some r := h
  replace k1 : OSl RTCond 142 11 Φ_1 [] pv0 s1 := k1
  show WT _ _ [(0, pv0), (1, .int .i64 s2), (5, .int .i64 s3)] (St w0 Φ_1 [] [ob pv0])
  unfold m_l_markCondS_l1 at h
  refine WT.seq ?_
  refine WT.seq ?_
  refine WT.region ?_
  refine lq (q_move rfl) rfl ?_
  refine lq (q_move rfl) rfl ?_
  refine lq (q_lenR Sl_48 rfl rfl k1.rsl) rfl ?_
  refine lq (q_lss rfl rfl) rfl ?_
  refine WL.nil ?_
  refine WT.cond rfl (fun c1 => ?_) (fun c1 => ?_)
  · replace h := ite_t h c1
    refine WT.skip ?_
    refine WT.seq ?_
    refine WT.block ?_
    refine WT.seq ?_
    refine WT.region ?_
    refine lq (q_move rfl) rfl ?_
    refine lq (q_move rfl) rfl ?_
    refine lq (q_move rfl) rfl ?_
    obtain ⟨x1, hx1, h⟩ := bind_some h
    obtain ⟨cs1, F1, h1, r1⟩ := k1.focusF RTCond.flat hx1
    obtain ⟨rfl, -⟩ := r1
    refine lq (q_indexAddrH Sl_48 rfl rfl h1 hx1) rfl ?_
    refine lq (q_fieldAddr Fld_142_0 rfl) rfl ?_
    refine lu (u_setH (js := [0]) (Rr := []) (o := 0) (vs := [.int .i64 s2]) (cs' := [.int .i64 s2, .int .i64 x1.L.K, .string x1.L.S, .int .i64 x1.L.V.K, .int .i64 x1.L.V.N, .string x1.L.V.S, .int .i64 x1.R.K, .string x1.R.S, .int .i64 x1.R.V.K, .int .i64 x1.R.V.N, .string x1.R.V.S]) RTCond.lasts Sz_3 rfl rfl rfl rfl ⟨rfl, trivial⟩ rfl h1 rfl rfl (fun ap => (Dj.nil _))) rfl (fun Φ_2 D2 q1 => ?_)
    obtain ⟨⟨ap1, fr1⟩, h2⟩ := q1
    refine WL.nil ?_
    refine WT.seq ?_
    refine WT.region ?_
    refine lq (q_move rfl) rfl ?_
    refine lq (q_add rfl rfl) rfl ?_
    refine lq (q_assign rfl) rfl ?_
    refine WL.nil ?_
    refine WT.seq ?_
    refine WT.region ?_
    refine lq (q_move rfl) rfl ?_
    refine lq (q_move rfl) rfl ?_
    refine lq (q_move rfl) rfl ?_
    refine lq (q_indexAddrH Sl_48 rfl rfl h2 hx1) rfl ?_
    refine lq (q_fieldAddr Fld_142_1 rfl) rfl ?_
    refine lq (q_fieldAddr Fld_140_0 rfl) rfl ?_
    refine lu (u_setH (js := [0]) (Rr := []) (o := 1) (vs := [.int .i64 (IntKind.i64.wrap (s2 + 1))]) (cs' := [.int .i64 s2, .int .i64 (IntKind.i64.wrap (s2 + 1)), .string x1.L.S, .int .i64 x1.L.V.K, .int .i64 x1.L.V.N, .string x1.L.V.S, .int .i64 x1.R.K, .string x1.R.S, .int .i64 x1.R.V.K, .int .i64 x1.R.V.N, .string x1.R.V.S]) RTCond.lasts Sz_3 rfl rfl rfl rfl ⟨rfl, trivial⟩ rfl h2 rfl rfl (fun ap => (Dj.nil _))) rfl (fun Φ_3 D3 q2 => ?_)
    obtain ⟨⟨ap2, fr2⟩, h3⟩ := q2
    refine WL.nil ?_
    refine WT.seq ?_
    refine WT.region ?_
    refine lq (q_move rfl) rfl ?_
    refine lq (q_add rfl rfl) rfl ?_
    refine lq (q_assign rfl) rfl ?_
    refine WL.nil ?_
    refine WT.seq ?_
    refine WT.region ?_
    refine lq (q_move rfl) rfl ?_
    refine lq (q_move rfl) rfl ?_
    refine lq (q_move rfl) rfl ?_
    obtain ⟨x2, hx2, h⟩ := bind_some h
    refine lp (p_call Fun_69 rfl (fun w1 hw => m_l_markText_ok hw.fro N (IntKind.i64.wrap ((IntKind.i64.wrap (s2 + 1)) + 1)) hx2)) rfl ?_
    refine lq (q_indexAddrH Sl_48 rfl rfl h3 hx1) rfl ?_
    refine lq (q_fieldAddr Fld_142_1 rfl) rfl ?_
    refine lq (q_fieldAddr Fld_140_1 rfl) rfl ?_
    refine lu (u_setH (js := [0]) (Rr := []) (o := 2) (vs := [.string x2]) (cs' := [.int .i64 s2, .int .i64 (IntKind.i64.wrap (s2 + 1)), .string x2, .int .i64 x1.L.V.K, .int .i64 x1.L.V.N, .string x1.L.V.S, .int .i64 x1.R.K, .string x1.R.S, .int .i64 x1.R.V.K, .int .i64 x1.R.V.N, .string x1.R.V.S]) RTCond.lasts Sz_9 rfl rfl rfl rfl ⟨rfl, trivial⟩ rfl h3 rfl rfl (fun ap => (Dj.nil _))) rfl (fun Φ_4 D4 q3 => ?_)
    obtain ⟨⟨ap3, fr3⟩, h4⟩ := q3
    refine WL.nil ?_
    refine WT.seq ?_
    refine WT.region ?_
    refine lq (q_move rfl) rfl ?_
    refine lq (q_add rfl rfl) rfl ?_
    refine lq (q_assign rfl) rfl ?_
    refine WL.nil ?_
    refine WT.seq ?_
    refine WT.region ?_
    refine lq (q_move rfl) rfl ?_
    refine lq (q_move rfl) rfl ?_
    refine lq (q_move rfl) rfl ?_
    refine lq (q_indexAddrH Sl_48 rfl rfl h4 hx1) rfl ?_
    refine lq (q_fieldAddr Fld_142_1 rfl) rfl ?_
    refine lq (q_fieldAddr Fld_140_2 rfl) rfl ?_
    refine lq (q_fieldAddr Fld_109_0 rfl) rfl ?_
    refine lu (u_setH (js := [0]) (Rr := []) (o := 3) (vs := [.int .i64 (IntKind.i64.wrap ((IntKind.i64.wrap ((IntKind.i64.wrap (s2 + 1)) + 1)) + 1))]) (cs' := [.int .i64 s2, .int .i64 (IntKind.i64.wrap (s2 + 1)), .string x2, .int .i64 (IntKind.i64.wrap ((IntKind.i64.wrap ((IntKind.i64.wrap (s2 + 1)) + 1)) + 1)), .int .i64 x1.L.V.N, .string x1.L.V.S, .int .i64 x1.R.K, .string x1.R.S, .int .i64 x1.R.V.K, .int .i64 x1.R.V.N, .string x1.R.V.S]) RTCond.lasts Sz_3 rfl rfl rfl rfl ⟨rfl, trivial⟩ rfl h4 rfl rfl (fun ap => (Dj.nil _))) rfl (fun Φ_5 D5 q4 => ?_)
    obtain ⟨⟨ap4, fr4⟩, h5⟩ := q4
    refine WL.nil ?_
    refine WT.seq ?_
    refine WT.region ?_
    refine lq (q_move rfl) rfl ?_
    refine lq (q_add rfl rfl) rfl ?_
    refine lq (q_assign rfl) rfl ?_
    refine WL.nil ?_
    refine WT.seq ?_
    refine WT.region ?_
    refine lq (q_move rfl) rfl ?_
    refine lq (q_move rfl) rfl ?_
    refine lq (q_move rfl) rfl ?_
    refine lq (q_indexAddrH Sl_48 rfl rfl h5 hx1) rfl ?_
    refine lq (q_fieldAddr Fld_142_1 rfl) rfl ?_
    refine lq (q_fieldAddr Fld_140_2 rfl) rfl ?_
    refine lq (q_fieldAddr Fld_109_1 rfl) rfl ?_
    refine lu (u_setH (js := [0]) (Rr := []) (o := 4) (vs := [.int .i64 (IntKind.i64.wrap ((IntKind.i64.wrap ((IntKind.i64.wrap ((IntKind.i64.wrap (s2 + 1)) + 1)) + 1)) + 1))]) (cs' := [.int .i64 s2, .int .i64 (IntKind.i64.wrap (s2 + 1)), .string x2, .int .i64 (IntKind.i64.wrap ((IntKind.i64.wrap ((IntKind.i64.wrap (s2 + 1)) + 1)) + 1)), .int .i64 (IntKind.i64.wrap ((IntKind.i64.wrap ((IntKind.i64.wrap ((IntKind.i64.wrap (s2 + 1)) + 1)) + 1)) + 1)), .string x1.L.V.S, .int .i64 x1.R.K, .string x1.R.S, .int .i64 x1.R.V.K, .int .i64 x1.R.V.N, .string x1.R.V.S]) RTCond.lasts Sz_3 rfl rfl rfl rfl ⟨rfl, trivial⟩ rfl h5 rfl rfl (fun ap => (Dj.nil _))) rfl (fun Φ_6 D6 q5 => ?_)
    obtain ⟨⟨ap5, fr5⟩, h6⟩ := q5
    refine WL.nil ?_
    refine WT.seq ?_
    refine WT.region ?_
    refine lq (q_move rfl) rfl ?_
    refine lq (q_add rfl rfl) rfl ?_
    refine lq (q_assign rfl) rfl ?_
    refine WL.nil ?_
    refine WT.seq ?_
    refine WT.region ?_
    refine lq (q_move rfl) rfl ?_
    refine lq (q_move rfl) rfl ?_
    refine lq (q_move rfl) rfl ?_
    obtain ⟨x3, hx3, h⟩ := bind_some h
    refine lp (p_call Fun_69 rfl (fun w1 hw => m_l_markText_ok hw.fro N (IntKind.i64.wrap ((IntKind.i64.wrap ((IntKind.i64.wrap ((IntKind.i64.wrap ((IntKind.i64.wrap (s2 + 1)) + 1)) + 1)) + 1)) + 1)) hx3)) rfl ?_
    refine lq (q_indexAddrH Sl_48 rfl rfl h6 hx1) rfl ?_
    refine lq (q_fieldAddr Fld_142_1 rfl) rfl ?_
    refine lq (q_fieldAddr Fld_140_2 rfl) rfl ?_
    refine lq (q_fieldAddr Fld_109_2 rfl) rfl ?_
    refine lu (u_setH (js := [0]) (Rr := []) (o := 5) (vs := [.string x3]) (cs' := [.int .i64 s2, .int .i64 (IntKind.i64.wrap (s2 + 1)), .string x2, .int .i64 (IntKind.i64.wrap ((IntKind.i64.wrap ((IntKind.i64.wrap (s2 + 1)) + 1)) + 1)), .int .i64 (IntKind.i64.wrap ((IntKind.i64.wrap ((IntKind.i64.wrap ((IntKind.i64.wrap (s2 + 1)) + 1)) + 1)) + 1)), .string x3, .int .i64 x1.R.K, .string x1.R.S, .int .i64 x1.R.V.K, .int .i64 x1.R.V.N, .string x1.R.V.S]) RTCond.lasts Sz_9 rfl rfl rfl rfl ⟨rfl, trivial⟩ rfl h6 rfl rfl (fun ap => (Dj.nil _))) rfl (fun Φ_7 D7 q6 => ?_)
    obtain ⟨⟨ap6, fr6⟩, h7⟩ := q6
    refine WL.nil ?_
    refine WT.seq ?_
    refine WT.region ?_
    refine lq (q_move rfl) rfl ?_
    refine lq (q_add rfl rfl) rfl ?_
    refine lq (q_assign rfl) rfl ?_
    refine WL.nil ?_
    refine WT.seq ?_
    refine WT.region ?_
    refine lq (q_move rfl) rfl ?_
    refine lq (q_move rfl) rfl ?_
    refine lq (q_move rfl) rfl ?_
    refine lq (q_indexAddrH Sl_48 rfl rfl h7 hx1) rfl ?_
    refine lq (q_fieldAddr Fld_142_2 rfl) rfl ?_
    refine lq (q_fieldAddr Fld_140_0 rfl) rfl ?_
    refine lu (u_setH (js := [0]) (Rr := []) (o := 6) (vs := [.int .i64 (IntKind.i64.wrap ((IntKind.i64.wrap ((IntKind.i64.wrap ((IntKind.i64.wrap ((IntKind.i64.wrap ((IntKind.i64.wrap (s2 + 1)) + 1)) + 1)) + 1)) + 1)) + 1))]) (cs' := [.int .i64 s2, .int .i64 (IntKind.i64.wrap (s2 + 1)), .string x2, .int .i64 (IntKind.i64.wrap ((IntKind.i64.wrap ((IntKind.i64.wrap (s2 + 1)) + 1)) + 1)), .int .i64 (IntKind.i64.wrap ((IntKind.i64.wrap ((IntKind.i64.wrap ((IntKind.i64.wrap (s2 + 1)) + 1)) + 1)) + 1)), .string x3, .int .i64 (IntKind.i64.wrap ((IntKind.i64.wrap ((IntKind.i64.wrap ((IntKind.i64.wrap ((IntKind.i64.wrap ((IntKind.i64.wrap (s2 + 1)) + 1)) + 1)) + 1)) + 1)) + 1)), .string x1.R.S, .int .i64 x1.R.V.K, .int .i64 x1.R.V.N, .string x1.R.V.S]) RTCond.lasts Sz_3 rfl rfl rfl rfl ⟨rfl, trivial⟩ rfl h7 rfl rfl (fun ap => (Dj.nil _))) rfl (fun Φ_8 D8 q7 => ?_)
    obtain ⟨⟨ap7, fr7⟩, h8⟩ := q7
    refine WL.nil ?_
    refine WT.seq ?_
    refine WT.region ?_
    refine lq (q_move rfl) rfl ?_
    refine lq (q_add rfl rfl) rfl ?_
    refine lq (q_assign rfl) rfl ?_
    refine WL.nil ?_
    refine WT.seq ?_
    refine WT.region ?_
    refine lq (q_move rfl) rfl ?_
    refine lq (q_move rfl) rfl ?_
    refine lq (q_move rfl) rfl ?_
    obtain ⟨x4, hx4, h⟩ := bind_some h
    refine lp (p_call Fun_69 rfl (fun w1 hw => m_l_markText_ok hw.fro N (IntKind.i64.wrap ((IntKind.i64.wrap ((IntKind.i64.wrap ((IntKind.i64.wrap ((IntKind.i64.wrap ((IntKind.i64.wrap ((IntKind.i64.wrap (s2 + 1)) + 1)) + 1)) + 1)) + 1)) + 1)) + 1)) hx4)) rfl ?_
    refine lq (q_indexAddrH Sl_48 rfl rfl h8 hx1) rfl ?_
    refine lq (q_fieldAddr Fld_142_2 rfl) rfl ?_
    refine lq (q_fieldAddr Fld_140_1 rfl) rfl ?_
    refine lu (u_setH (js := [0]) (Rr := []) (o := 7) (vs := [.string x4]) (cs' := [.int .i64 s2, .int .i64 (IntKind.i64.wrap (s2 + 1)), .string x2, .int .i64 (IntKind.i64.wrap ((IntKind.i64.wrap ((IntKind.i64.wrap (s2 + 1)) + 1)) + 1)), .int .i64 (IntKind.i64.wrap ((IntKind.i64.wrap ((IntKind.i64.wrap ((IntKind.i64.wrap (s2 + 1)) + 1)) + 1)) + 1)), .string x3, .int .i64 (IntKind.i64.wrap ((IntKind.i64.wrap ((IntKind.i64.wrap ((IntKind.i64.wrap ((IntKind.i64.wrap ((IntKind.i64.wrap (s2 + 1)) + 1)) + 1)) + 1)) + 1)) + 1)), .string x4, .int .i64 x1.R.V.K, .int .i64 x1.R.V.N, .string x1.R.V.S]) RTCond.lasts Sz_9 rfl rfl rfl rfl ⟨rfl, trivial⟩ rfl h8 rfl rfl (fun ap => (Dj.nil _))) rfl (fun Φ_9 D9 q8 => ?_)
    obtain ⟨⟨ap8, fr8⟩, h9⟩ := q8
    refine WL.nil ?_
    refine WT.seq ?_
    refine WT.region ?_
    refine lq (q_move rfl) rfl ?_
    refine lq (q_add rfl rfl) rfl ?_
    refine lq (q_assign rfl) rfl ?_
    refine WL.nil ?_
    refine WT.seq ?_
    refine WT.region ?_
    refine lq (q_move rfl) rfl ?_
    refine lq (q_move rfl) rfl ?_
    refine lq (q_move rfl) rfl ?_
    refine lq (q_indexAddrH Sl_48 rfl rfl h9 hx1) rfl ?_
    refine lq (q_fieldAddr Fld_142_2 rfl) rfl ?_
    refine lq (q_fieldAddr Fld_140_2 rfl) rfl ?_
    refine lq (q_fieldAddr Fld_109_0 rfl) rfl ?_
    refine lu (u_setH (js := [0]) (Rr := []) (o := 8) (vs := [.int .i64 (IntKind.i64.wrap ((IntKind.i64.wrap ((IntKind.i64.wrap ((IntKind.i64.wrap ((IntKind.i64.wrap ((IntKind.i64.wrap ((IntKind.i64.wrap ((IntKind.i64.wrap (s2 + 1)) + 1)) + 1)) + 1)) + 1)) + 1)) + 1)) + 1))]) (cs' := [.int .i64 s2, .int .i64 (IntKind.i64.wrap (s2 + 1)), .string x2, .int .i64 (IntKind.i64.wrap ((IntKind.i64.wrap ((IntKind.i64.wrap (s2 + 1)) + 1)) + 1)), .int .i64 (IntKind.i64.wrap ((IntKind.i64.wrap ((IntKind.i64.wrap ((IntKind.i64.wrap (s2 + 1)) + 1)) + 1)) + 1)), .string x3, .int .i64 (IntKind.i64.wrap ((IntKind.i64.wrap ((IntKind.i64.wrap ((IntKind.i64.wrap ((IntKind.i64.wrap ((IntKind.i64.wrap (s2 + 1)) + 1)) + 1)) + 1)) + 1)) + 1)), .string x4, .int .i64 (IntKind.i64.wrap ((IntKind.i64.wrap ((IntKind.i64.wrap ((IntKind.i64.wrap ((IntKind.i64.wrap ((IntKind.i64.wrap ((IntKind.i64.wrap ((IntKind.i64.wrap (s2 + 1)) + 1)) + 1)) + 1)) + 1)) + 1)) + 1)) + 1)), .int .i64 x1.R.V.N, .string x1.R.V.S]) RTCond.lasts Sz_3 rfl rfl rfl rfl ⟨rfl, trivial⟩ rfl h9 rfl rfl (fun ap => (Dj.nil _))) rfl (fun Φ_10 D10 q9 => ?_)
    obtain ⟨⟨ap9, fr9⟩, h10⟩ := q9
    refine WL.nil ?_
    refine WT.seq ?_
    refine WT.region ?_
    refine lq (q_move rfl) rfl ?_
    refine lq (q_add rfl rfl) rfl ?_
    refine lq (q_assign rfl) rfl ?_
    refine WL.nil ?_
    refine WT.seq ?_
    refine WT.region ?_
    refine lq (q_move rfl) rfl ?_
    refine lq (q_move rfl) rfl ?_
    refine lq (q_move rfl) rfl ?_
    refine lq (q_indexAddrH Sl_48 rfl rfl h10 hx1) rfl ?_
    refine lq (q_fieldAddr Fld_142_2 rfl) rfl ?_
    refine lq (q_fieldAddr Fld_140_2 rfl) rfl ?_
    refine lq (q_fieldAddr Fld_109_1 rfl) rfl ?_
    refine lu (u_setH (js := [0]) (Rr := []) (o := 9) (vs := [.int .i64 (IntKind.i64.wrap ((IntKind.i64.wrap ((IntKind.i64.wrap ((IntKind.i64.wrap ((IntKind.i64.wrap ((IntKind.i64.wrap ((IntKind.i64.wrap ((IntKind.i64.wrap ((IntKind.i64.wrap (s2 + 1)) + 1)) + 1)) + 1)) + 1)) + 1)) + 1)) + 1)) + 1))]) (cs' := [.int .i64 s2, .int .i64 (IntKind.i64.wrap (s2 + 1)), .string x2, .int .i64 (IntKind.i64.wrap ((IntKind.i64.wrap ((IntKind.i64.wrap (s2 + 1)) + 1)) + 1)), .int .i64 (IntKind.i64.wrap ((IntKind.i64.wrap ((IntKind.i64.wrap ((IntKind.i64.wrap (s2 + 1)) + 1)) + 1)) + 1)), .string x3, .int .i64 (IntKind.i64.wrap ((IntKind.i64.wrap ((IntKind.i64.wrap ((IntKind.i64.wrap ((IntKind.i64.wrap ((IntKind.i64.wrap (s2 + 1)) + 1)) + 1)) + 1)) + 1)) + 1)), .string x4, .int .i64 (IntKind.i64.wrap ((IntKind.i64.wrap ((IntKind.i64.wrap ((IntKind.i64.wrap ((IntKind.i64.wrap ((IntKind.i64.wrap ((IntKind.i64.wrap ((IntKind.i64.wrap (s2 + 1)) + 1)) + 1)) + 1)) + 1)) + 1)) + 1)) + 1)), .int .i64 (IntKind.i64.wrap ((IntKind.i64.wrap ((IntKind.i64.wrap ((IntKind.i64.wrap ((IntKind.i64.wrap ((IntKind.i64.wrap ((IntKind.i64.wrap ((IntKind.i64.wrap ((IntKind.i64.wrap (s2 + 1)) + 1)) + 1)) + 1)) + 1)) + 1)) + 1)) + 1)) + 1)), .string x1.R.V.S]) RTCond.lasts Sz_3 rfl rfl rfl rfl ⟨rfl, trivial⟩ rfl h10 rfl rfl (fun ap => (Dj.nil _))) rfl (fun Φ_11 D11 q10 => ?_)
    obtain ⟨⟨ap10, fr10⟩, h11⟩ := q10
    refine WL.nil ?_
    refine WT.seq ?_
    refine WT.region ?_
    refine lq (q_move rfl) rfl ?_
    refine lq (q_add rfl rfl) rfl ?_
    refine lq (q_assign rfl) rfl ?_
    refine WL.nil ?_
    refine WT.seq ?_
    refine WT.region ?_
    refine lq (q_move rfl) rfl ?_
    refine lq (q_move rfl) rfl ?_
    refine lq (q_move rfl) rfl ?_
    obtain ⟨x5, hx5, h⟩ := bind_some h
    refine lp (p_call Fun_69 rfl (fun w1 hw => m_l_markText_ok hw.fro N (IntKind.i64.wrap ((IntKind.i64.wrap ((IntKind.i64.wrap ((IntKind.i64.wrap ((IntKind.i64.wrap ((IntKind.i64.wrap ((IntKind.i64.wrap ((IntKind.i64.wrap ((IntKind.i64.wrap ((IntKind.i64.wrap (s2 + 1)) + 1)) + 1)) + 1)) + 1)) + 1)) + 1)) + 1)) + 1)) + 1)) hx5)) rfl ?_
    refine lq (q_indexAddrH Sl_48 rfl rfl h11 hx1) rfl ?_
    refine lq (q_fieldAddr Fld_142_2 rfl) rfl ?_
    refine lq (q_fieldAddr Fld_140_2 rfl) rfl ?_
    refine lq (q_fieldAddr Fld_109_2 rfl) rfl ?_
    refine lu (u_setH (js := [0]) (Rr := []) (o := 10) (vs := [.string x5]) (cs' := [.int .i64 s2, .int .i64 (IntKind.i64.wrap (s2 + 1)), .string x2, .int .i64 (IntKind.i64.wrap ((IntKind.i64.wrap ((IntKind.i64.wrap (s2 + 1)) + 1)) + 1)), .int .i64 (IntKind.i64.wrap ((IntKind.i64.wrap ((IntKind.i64.wrap ((IntKind.i64.wrap (s2 + 1)) + 1)) + 1)) + 1)), .string x3, .int .i64 (IntKind.i64.wrap ((IntKind.i64.wrap ((IntKind.i64.wrap ((IntKind.i64.wrap ((IntKind.i64.wrap ((IntKind.i64.wrap (s2 + 1)) + 1)) + 1)) + 1)) + 1)) + 1)), .string x4, .int .i64 (IntKind.i64.wrap ((IntKind.i64.wrap ((IntKind.i64.wrap ((IntKind.i64.wrap ((IntKind.i64.wrap ((IntKind.i64.wrap ((IntKind.i64.wrap ((IntKind.i64.wrap (s2 + 1)) + 1)) + 1)) + 1)) + 1)) + 1)) + 1)) + 1)), .int .i64 (IntKind.i64.wrap ((IntKind.i64.wrap ((IntKind.i64.wrap ((IntKind.i64.wrap ((IntKind.i64.wrap ((IntKind.i64.wrap ((IntKind.i64.wrap ((IntKind.i64.wrap ((IntKind.i64.wrap (s2 + 1)) + 1)) + 1)) + 1)) + 1)) + 1)) + 1)) + 1)) + 1)), .string x5]) RTCond.lasts Sz_9 rfl rfl rfl rfl ⟨rfl, trivial⟩ rfl h11 rfl rfl (fun ap => (Dj.nil _))) rfl (fun Φ_12 D12 q11 => ?_)
    obtain ⟨⟨ap11, fr11⟩, h12⟩ := q11
    refine WL.nil ?_
    refine WT.region ?_
    refine lq (q_move rfl) rfl ?_
    refine lq (q_add rfl rfl) rfl ?_
    refine lq (q_assign rfl) rfl ?_
    refine WL.nil ?_
    refine WT.inBlock ?_
    refine WT.region ?_
    refine lq (q_move rfl) rfl ?_
    refine lq (q_add rfl rfl) rfl ?_
    refine lq (q_assign rfl) rfl ?_
    refine WL.nil ?_
    have h13 := h12.unfocusF RTCond.flat (cs := [.int .i64 s2, .int .i64 (IntKind.i64.wrap (s2 + 1)), .string x2, .int .i64 (IntKind.i64.wrap ((IntKind.i64.wrap ((IntKind.i64.wrap (s2 + 1)) + 1)) + 1)), .int .i64 (IntKind.i64.wrap ((IntKind.i64.wrap ((IntKind.i64.wrap ((IntKind.i64.wrap (s2 + 1)) + 1)) + 1)) + 1)), .string x3, .int .i64 (IntKind.i64.wrap ((IntKind.i64.wrap ((IntKind.i64.wrap ((IntKind.i64.wrap ((IntKind.i64.wrap ((IntKind.i64.wrap (s2 + 1)) + 1)) + 1)) + 1)) + 1)) + 1)), .string x4, .int .i64 (IntKind.i64.wrap ((IntKind.i64.wrap ((IntKind.i64.wrap ((IntKind.i64.wrap ((IntKind.i64.wrap ((IntKind.i64.wrap ((IntKind.i64.wrap ((IntKind.i64.wrap (s2 + 1)) + 1)) + 1)) + 1)) + 1)) + 1)) + 1)) + 1)), .int .i64 (IntKind.i64.wrap ((IntKind.i64.wrap ((IntKind.i64.wrap ((IntKind.i64.wrap ((IntKind.i64.wrap ((IntKind.i64.wrap ((IntKind.i64.wrap ((IntKind.i64.wrap ((IntKind.i64.wrap (s2 + 1)) + 1)) + 1)) + 1)) + 1)) + 1)) + 1)) + 1)) + 1)), .string x5]) (x' := (⟨s2, (⟨IntKind.i64.wrap (s2 + 1), x2, (⟨IntKind.i64.wrap ((IntKind.i64.wrap ((IntKind.i64.wrap (s2 + 1)) + 1)) + 1), IntKind.i64.wrap ((IntKind.i64.wrap ((IntKind.i64.wrap ((IntKind.i64.wrap (s2 + 1)) + 1)) + 1)) + 1), x3⟩ : TVal)⟩ : TArg), (⟨IntKind.i64.wrap ((IntKind.i64.wrap ((IntKind.i64.wrap ((IntKind.i64.wrap ((IntKind.i64.wrap ((IntKind.i64.wrap (s2 + 1)) + 1)) + 1)) + 1)) + 1)) + 1), x4, (⟨IntKind.i64.wrap ((IntKind.i64.wrap ((IntKind.i64.wrap ((IntKind.i64.wrap ((IntKind.i64.wrap ((IntKind.i64.wrap ((IntKind.i64.wrap ((IntKind.i64.wrap (s2 + 1)) + 1)) + 1)) + 1)) + 1)) + 1)) + 1)) + 1), IntKind.i64.wrap ((IntKind.i64.wrap ((IntKind.i64.wrap ((IntKind.i64.wrap ((IntKind.i64.wrap ((IntKind.i64.wrap ((IntKind.i64.wrap ((IntKind.i64.wrap ((IntKind.i64.wrap (s2 + 1)) + 1)) + 1)) + 1)) + 1)) + 1)) + 1)) + 1)) + 1), x5⟩ : TVal)⟩ : TArg)⟩ : TCond)) ⟨rfl, rfl⟩
    refine WT.inLoop (WT.mono (l' := [(0, pv0), (1, .int .i64 (IntKind.i64.wrap ((IntKind.i64.wrap ((IntKind.i64.wrap ((IntKind.i64.wrap ((IntKind.i64.wrap ((IntKind.i64.wrap ((IntKind.i64.wrap ((IntKind.i64.wrap ((IntKind.i64.wrap ((IntKind.i64.wrap ((IntKind.i64.wrap (s2 + 1)) + 1)) + 1)) + 1)) + 1)) + 1)) + 1)) + 1)) + 1)) + 1)) + 1))), (5, .int .i64 (IntKind.i64.wrap (s3 + 1)))]) (S' := St w0 Φ_12 [] [ob pv0]) ⟨rfl, rfl, rfl, trivial⟩ (fun w1 hw => (hw.sel (js := [0]) rfl).selO (js := []) rfl) ?_)
    exact ih1 (Φ_12, (s1.set s3.toNat (⟨s2, (⟨IntKind.i64.wrap (s2 + 1), x2, (⟨IntKind.i64.wrap ((IntKind.i64.wrap ((IntKind.i64.wrap (s2 + 1)) + 1)) + 1), IntKind.i64.wrap ((IntKind.i64.wrap ((IntKind.i64.wrap ((IntKind.i64.wrap (s2 + 1)) + 1)) + 1)) + 1), x3⟩ : TVal)⟩ : TArg), (⟨IntKind.i64.wrap ((IntKind.i64.wrap ((IntKind.i64.wrap ((IntKind.i64.wrap ((IntKind.i64.wrap ((IntKind.i64.wrap (s2 + 1)) + 1)) + 1)) + 1)) + 1)) + 1), x4, (⟨IntKind.i64.wrap ((IntKind.i64.wrap ((IntKind.i64.wrap ((IntKind.i64.wrap ((IntKind.i64.wrap ((IntKind.i64.wrap ((IntKind.i64.wrap ((IntKind.i64.wrap (s2 + 1)) + 1)) + 1)) + 1)) + 1)) + 1)) + 1)) + 1), IntKind.i64.wrap ((IntKind.i64.wrap ((IntKind.i64.wrap ((IntKind.i64.wrap ((IntKind.i64.wrap ((IntKind.i64.wrap ((IntKind.i64.wrap ((IntKind.i64.wrap ((IntKind.i64.wrap (s2 + 1)) + 1)) + 1)) + 1)) + 1)) + 1)) + 1)) + 1)) + 1), x5⟩ : TVal)⟩ : TArg)⟩ : TCond)), IntKind.i64.wrap ((IntKind.i64.wrap ((IntKind.i64.wrap ((IntKind.i64.wrap ((IntKind.i64.wrap ((IntKind.i64.wrap ((IntKind.i64.wrap ((IntKind.i64.wrap ((IntKind.i64.wrap ((IntKind.i64.wrap ((IntKind.i64.wrap (s2 + 1)) + 1)) + 1)) + 1)) + 1)) + 1)) + 1)) + 1)) + 1)) + 1)) + 1), IntKind.i64.wrap (s3 + 1)) ⟨h, h13⟩
  replace h := ite_f h c1
  refine WT.exit rfl ?_
  refine WT.seq ?_
  refine WT.region ?_
  refine lq (q_move rfl) rfl ?_
  refine lq (q_assign rfl) rfl ?_
  refine WL.nil ?_
  refine WT.ret Try.func66 (resOk.one rfl) (fun w1 hw => ?_)
  subst hb0
  cases h
  refine postG_of_St (js := [0]) hw rfl ⟨rfl, rfl, k1⟩
theorem m_l_markExprS_ok {Φ : Hp} {w : World} (hΦ : In Φ w) (N : Nat) (p0 : (List TExpr)) (p1 : Int) {pv0 : Value} (ph0 : OSl RTExpr 197 11 Φ [] pv0 p0) (hB : [ob pv0].flatten.Nodup) (hlt : ∀ k ∈ [ob pv0].flatten, k < w.heap.size) {r : Int × (List TExpr)} (h : m_l_markExprS N p0 p1 = some r) :
    Calls Try.prog 117 [pv0, .int .i64 p1].toArray w (PostG Φ w [ob pv0].flatten (fun Φ' Fs v => v = .int .i64 r.1 ∧ Fs = [ob pv0] ∧ OSl RTExpr 197 11 Φ' [] pv0 r.2)) := by
  refine enter Try.func117 rfl Try.ntmps117 rfl (St.start hΦ [ob pv0] hB hlt) ?_
  generalize hb0 : (⟨w, [ob pv0].flatten, Φ⟩ : Base) = w0
  unfold m_l_markExprS at h
  refine WT.seq ?_
  refine WT.region ?_
  refine lq (q_assign rfl) rfl ?_
  refine WL.nil ?_
  refine WT.seq ?_
  refine WT.seq ?_
  refine WT.region ?_
  refine lq (q_assign rfl) rfl ?_
  refine WL.nil ?_
  refine WT.block ?_
  refine WT.loop ?_
  refine WT.mono (l' := [(0, pv0), (1, .int .i64 p1), (5, .int .i64 0)]) (S' := St w0 Φ [] [ob pv0]) ⟨rfl, rfl, rfl, trivial⟩ (fun w1 hw => (hw.sel (js := [0]) rfl).selO (js := []) rfl) ?_
  refine loop_ind (σ := Hp × (List TExpr) × Int × Int) (fun s => [(0, pv0), (1, .int .i64 s.2.2.1), (5, .int .i64 s.2.2.2)]) (fun s => St w0 s.1 [] [ob pv0]) (fun m s => m_l_markExprS_l1 N m s.2.1 s.2.2.1 s.2.2.2 = some r ∧ (OSl RTExpr 197 11 s.1 [] pv0 s.2.1)) (fun s hm => none_ne (show (none : Option (Int × (List TExpr))) = some r from hm.1)) (fun n1 ih1 s hm => ?_) N (Φ, p0, p1, 0) ⟨h, ph0⟩
  obtain ⟨Φ_1, s1, s2, s3⟩ := s
  obtain ⟨h, k1⟩ := hm
  replace h : m_l_markExprS_l1 N (n1 + 1) s1 s2 s3 = some r := h
  replace k1 : OSl RTExpr 197 11 Φ_1 [] pv0 s1 := k1
  show WT _ _ [(0, pv0), (1, .int .i64 s2), (5, .int .i64 s3)] (St w0 Φ_1 [] [ob pv0])
  unfold m_l_markExprS_l1 at h
  refine WT.seq ?_
  refine WT.seq ?_
  refine WT.region ?_
  refine lq (q_move rfl) rfl ?_
  refine lq (q_move rfl) rfl ?_
  refine lq (q_lenR Sl_144 rfl rfl k1.rsl) rfl ?_
  refine lq (q_lss rfl rfl) rfl ?_
  refine WL.nil ?_
  refine WT.cond rfl (fun c1 => ?_) (fun c1 => ?_)
  · replace h := ite_t h c1
    refine WT.skip ?_
    refine WT.seq ?_
    refine WT.block ?_
    refine WT.seq ?_
    refine WT.region ?_
    refine lq (q_move rfl) rfl ?_
    refine lq (q_move rfl) rfl ?_
    refine lq (q_move rfl) rfl ?_
    obtain ⟨x1, hx1, h⟩ := bind_some h
    refine lp (p_call Fun_69 rfl (fun w1 hw => m_l_markText_ok hw.fro N s2 hx1)) rfl ?_
    obtain ⟨x2, hx2, h⟩ := bind_some h
    obtain ⟨cs1, F1, h1, r1⟩ := k1.focusF RTExpr.flat hx2
    obtain ⟨rfl, -⟩ := r1
    refine lq (q_indexAddrH Sl_144 rfl rfl h1 hx2) rfl ?_
    refine lq (q_fieldAddr Fld_197_0 rfl) rfl ?_
    refine lu (u_setH (js := [0]) (Rr := []) (o := 0) (vs := [.string x1]) (cs' := [.string x1, .int .i64 x2.L.K, .string x2.L.S, .int .i64 x2.L.V.K, .int .i64 x2.L.V.N, .string x2.L.V.S, .int .i64 x2.R.K, .string x2.R.S, .int .i64 x2.R.V.K, .int .i64 x2.R.V.N, .string x2.R.V.S]) RTExpr.lasts Sz_9 rfl rfl rfl rfl ⟨rfl, trivial⟩ rfl h1 rfl rfl (fun ap => (Dj.nil _))) rfl (fun Φ_2 D2 q1 => ?_)
    obtain ⟨⟨ap1, fr1⟩, h2⟩ := q1
    refine WL.nil ?_
    refine WT.seq ?_
    refine WT.region ?_
    refine lq (q_move rfl) rfl ?_
    refine lq (q_add rfl rfl) rfl ?_
    refine lq (q_assign rfl) rfl ?_
    refine WL.nil ?_
    refine WT.seq ?_
    refine WT.region ?_
    refine lq (q_move rfl) rfl ?_
    refine lq (q_move rfl) rfl ?_
    refine lq (q_move rfl) rfl ?_
    refine lq (q_indexAddrH Sl_144 rfl rfl h2 hx2) rfl ?_
    refine lq (q_fieldAddr Fld_197_1 rfl) rfl ?_
    refine lq (q_fieldAddr Fld_140_0 rfl) rfl ?_
    refine lu (u_setH (js := [0]) (Rr := []) (o := 1) (vs := [.int .i64 (IntKind.i64.wrap (s2 + 1))]) (cs' := [.string x1, .int .i64 (IntKind.i64.wrap (s2 + 1)), .string x2.L.S, .int .i64 x2.L.V.K, .int .i64 x2.L.V.N, .string x2.L.V.S, .int .i64 x2.R.K, .string x2.R.S, .int .i64 x2.R.V.K, .int .i64 x2.R.V.N, .string x2.R.V.S]) RTExpr.lasts Sz_3 rfl rfl rfl rfl ⟨rfl, trivial⟩ rfl h2 rfl rfl (fun ap => (Dj.nil _))) rfl (fun Φ_3 D3 q2 => ?_)
    obtain ⟨⟨ap2, fr2⟩, h3⟩ := q2
    refine WL.nil ?_
    refine WT.seq ?_
    refine WT.region ?_
    refine lq (q_move rfl) rfl ?_
    refine lq (q_add rfl rfl) rfl ?_
    refine lq (q_assign rfl) rfl ?_
    refine WL.nil ?_
    refine WT.seq ?_
    refine WT.region ?_
    refine lq (q_move rfl) rfl ?_
    refine lq (q_move rfl) rfl ?_
    refine lq (q_move rfl) rfl ?_
    obtain ⟨x3, hx3, h⟩ := bind_some h
    refine lp (p_call Fun_69 rfl (fun w1 hw => m_l_markText_ok hw.fro N (IntKind.i64.wrap ((IntKind.i64.wrap (s2 + 1)) + 1)) hx3)) rfl ?_
    refine lq (q_indexAddrH Sl_144 rfl rfl h3 hx2) rfl ?_
    refine lq (q_fieldAddr Fld_197_1 rfl) rfl ?_
    refine lq (q_fieldAddr Fld_140_1 rfl) rfl ?_
    refine lu (u_setH (js := [0]) (Rr := []) (o := 2) (vs := [.string x3]) (cs' := [.string x1, .int .i64 (IntKind.i64.wrap (s2 + 1)), .string x3, .int .i64 x2.L.V.K, .int .i64 x2.L.V.N, .string x2.L.V.S, .int .i64 x2.R.K, .string x2.R.S, .int .i64 x2.R.V.K, .int .i64 x2.R.V.N, .string x2.R.V.S]) RTExpr.lasts Sz_9 rfl rfl rfl rfl ⟨rfl, trivial⟩ rfl h3 rfl rfl (fun ap => (Dj.nil _))) rfl (fun Φ_4 D4 q3 => ?_)
    obtain ⟨⟨ap3, fr3⟩, h4⟩ := q3
    refine WL.nil ?_
    refine WT.seq ?_
    refine WT.region ?_
    refine lq (q_move rfl) rfl ?_
    refine lq (q_add rfl rfl) rfl ?_
    refine lq (q_assign rfl) rfl ?_
    refine WL.nil ?_
    refine WT.seq ?_
    refine WT.region ?_
    refine lq (q_move rfl) rfl ?_
    refine lq (q_move rfl) rfl ?_
    refine lq (q_move rfl) rfl ?_
    refine lq (q_indexAddrH Sl_144 rfl rfl h4 hx2) rfl ?_
    refine lq (q_fieldAddr Fld_197_1 rfl) rfl ?_
    refine lq (q_fieldAddr Fld_140_2 rfl) rfl ?_
    refine lq (q_fieldAddr Fld_109_0 rfl) rfl ?_
    refine lu (u_setH (js := [0]) (Rr := []) (o := 3) (vs := [.int .i64 (IntKind.i64.wrap ((IntKind.i64.wrap ((IntKind.i64.wrap (s2 + 1)) + 1)) + 1))]) (cs' := [.string x1, .int .i64 (IntKind.i64.wrap (s2 + 1)), .string x3, .int .i64 (IntKind.i64.wrap ((IntKind.i64.wrap ((IntKind.i64.wrap (s2 + 1)) + 1)) + 1)), .int .i64 x2.L.V.N, .string x2.L.V.S, .int .i64 x2.R.K, .string x2.R.S, .int .i64 x2.R.V.K, .int .i64 x2.R.V.N, .string x2.R.V.S]) RTExpr.lasts Sz_3 rfl rfl rfl rfl ⟨rfl, trivial⟩ rfl h4 rfl rfl (fun ap => (Dj.nil _))) rfl (fun Φ_5 D5 q4 => ?_)
    obtain ⟨⟨ap4, fr4⟩, h5⟩ := q4
    refine WL.nil ?_
    refine WT.seq ?_
    refine WT.region ?_
    refine lq (q_move rfl) rfl ?_
    refine lq (q_add rfl rfl) rfl ?_
    refine lq (q_assign rfl) rfl ?_
    refine WL.nil ?_
    refine WT.seq ?_
    refine WT.region ?_
    refine lq (q_move rfl) rfl ?_
    refine lq (q_move rfl) rfl ?_
    refine lq (q_move rfl) rfl ?_
    refine lq (q_indexAddrH Sl_144 rfl rfl h5 hx2) rfl ?_
    refine lq (q_fieldAddr Fld_197_1 rfl) rfl ?_
    refine lq (q_fieldAddr Fld_140_2 rfl) rfl ?_
    refine lq (q_fieldAddr Fld_109_1 rfl) rfl ?_
    refine lu (u_setH (js := [0]) (Rr := []) (o := 4) (vs := [.int .i64 (IntKind.i64.wrap ((IntKind.i64.wrap ((IntKind.i64.wrap ((IntKind.i64.wrap (s2 + 1)) + 1)) + 1)) + 1))]) (cs' := [.string x1, .int .i64 (IntKind.i64.wrap (s2 + 1)), .string x3, .int .i64 (IntKind.i64.wrap ((IntKind.i64.wrap ((IntKind.i64.wrap (s2 + 1)) + 1)) + 1)), .int .i64 (IntKind.i64.wrap ((IntKind.i64.wrap ((IntKind.i64.wrap ((IntKind.i64.wrap (s2 + 1)) + 1)) + 1)) + 1)), .string x2.L.V.S, .int .i64 x2.R.K, .string x2.R.S, .int .i64 x2.R.V.K, .int .i64 x2.R.V.N, .string x2.R.V.S]) RTExpr.lasts Sz_3 rfl rfl rfl rfl ⟨rfl, trivial⟩ rfl h5 rfl rfl (fun ap => (Dj.nil _))) rfl (fun Φ_6 D6 q5 => ?_)
    obtain ⟨⟨ap5, fr5⟩, h6⟩ := q5
    refine WL.nil ?_
    refine WT.seq ?_
    refine WT.region ?_
    refine lq (q_move rfl) rfl ?_
    refine lq (q_add rfl rfl) rfl ?_
    refine lq (q_assign rfl) rfl ?_
    refine WL.nil ?_
    refine WT.seq ?_
    refine WT.region ?_
    refine lq (q_move rfl) rfl ?_
    refine lq (q_move rfl) rfl ?_
    refine lq (q_move rfl) rfl ?_
    obtain ⟨x4, hx4, h⟩ := bind_some h
    refine lp (p_call Fun_69 rfl (fun w1 hw => m_l_markText_ok hw.fro N (IntKind.i64.wrap ((IntKind.i64.wrap ((IntKind.i64.wrap ((IntKind.i64.wrap ((IntKind.i64.wrap (s2 + 1)) + 1)) + 1)) + 1)) + 1)) hx4)) rfl ?_
    refine lq (q_indexAddrH Sl_144 rfl rfl h6 hx2) rfl ?_
    refine lq (q_fieldAddr Fld_197_1 rfl) rfl ?_
    refine lq (q_fieldAddr Fld_140_2 rfl) rfl ?_
    refine lq (q_fieldAddr Fld_109_2 rfl) rfl ?_
    refine lu (u_setH (js := [0]) (Rr := []) (o := 5) (vs := [.string x4]) (cs' := [.string x1, .int .i64 (IntKind.i64.wrap (s2 + 1)), .string x3, .int .i64 (IntKind.i64.wrap ((IntKind.i64.wrap ((IntKind.i64.wrap (s2 + 1)) + 1)) + 1)), .int .i64 (IntKind.i64.wrap ((IntKind.i64.wrap ((IntKind.i64.wrap ((IntKind.i64.wrap (s2 + 1)) + 1)) + 1)) + 1)), .string x4, .int .i64 x2.R.K, .string x2.R.S, .int .i64 x2.R.V.K, .int .i64 x2.R.V.N, .string x2.R.V.S]) RTExpr.lasts Sz_9 rfl rfl rfl rfl ⟨rfl, trivial⟩ rfl h6 rfl rfl (fun ap => (Dj.nil _))) rfl (fun Φ_7 D7 q6 => ?_)
    obtain ⟨⟨ap6, fr6⟩, h7⟩ := q6
    refine WL.nil ?_
    refine WT.seq ?_
    refine WT.region ?_
    refine lq (q_move rfl) rfl ?_
    refine lq (q_add rfl rfl) rfl ?_
    refine lq (q_assign rfl) rfl ?_
    refine WL.nil ?_
    refine WT.seq ?_
    refine WT.region ?_
    refine lq (q_move rfl) rfl ?_
    refine lq (q_move rfl) rfl ?_
    refine lq (q_move rfl) rfl ?_
    refine lq (q_indexAddrH Sl_144 rfl rfl h7 hx2) rfl ?_
    refine lq (q_fieldAddr Fld_197_2 rfl) rfl ?_
    refine lq (q_fieldAddr Fld_140_0 rfl) rfl ?_
    refine lu (u_setH (js := [0]) (Rr := []) (o := 6) (vs := [.int .i64 (IntKind.i64.wrap ((IntKind.i64.wrap ((IntKind.i64.wrap ((IntKind.i64.wrap ((IntKind.i64.wrap ((IntKind.i64.wrap (s2 + 1)) + 1)) + 1)) + 1)) + 1)) + 1))]) (cs' := [.string x1, .int .i64 (IntKind.i64.wrap (s2 + 1)), .string x3, .int .i64 (IntKind.i64.wrap ((IntKind.i64.wrap ((IntKind.i64.wrap (s2 + 1)) + 1)) + 1)), .int .i64 (IntKind.i64.wrap ((IntKind.i64.wrap ((IntKind.i64.wrap ((IntKind.i64.wrap (s2 + 1)) + 1)) + 1)) + 1)), .string x4, .int .i64 (IntKind.i64.wrap ((IntKind.i64.wrap ((IntKind.i64.wrap ((IntKind.i64.wrap ((IntKind.i64.wrap ((IntKind.i64.wrap (s2 + 1)) + 1)) + 1)) + 1)) + 1)) + 1)), .string x2.R.S, .int .i64 x2.R.V.K, .int .i64 x2.R.V.N, .string x2.R.V.S]) RTExpr.lasts Sz_3 rfl rfl rfl rfl ⟨rfl, trivial⟩ rfl h7 rfl rfl (fun ap => (Dj.nil _))) rfl (fun Φ_8 D8 q7 => ?_)
    obtain ⟨⟨ap7, fr7⟩, h8⟩ := q7
    refine WL.nil ?_
    refine WT.seq ?_
    refine WT.region ?_
    refine lq (q_move rfl) rfl ?_
    refine lq (q_add rfl rfl) rfl ?_
    refine lq (q_assign rfl) rfl ?_
    refine WL.nil ?_
    refine WT.seq ?_
    refine WT.region ?_
    refine lq (q_move rfl) rfl ?_
    refine lq (q_move rfl) rfl ?_
    refine lq (q_move rfl) rfl ?_
    obtain ⟨x5, hx5, h⟩ := bind_some h
    refine lp (p_call Fun_69 rfl (fun w1 hw => m_l_markText_ok hw.fro N (IntKind.i64.wrap ((IntKind.i64.wrap ((IntKind.i64.wrap ((IntKind.i64.wrap ((IntKind.i64.wrap ((IntKind.i64.wrap ((IntKind.i64.wrap (s2 + 1)) + 1)) + 1)) + 1)) + 1)) + 1)) + 1)) hx5)) rfl ?_
    refine lq (q_indexAddrH Sl_144 rfl rfl h8 hx2) rfl ?_
    refine lq (q_fieldAddr Fld_197_2 rfl) rfl ?_
    refine lq (q_fieldAddr Fld_140_1 rfl) rfl ?_
    refine lu (u_setH (js := [0]) (Rr := []) (o := 7) (vs := [.string x5]) (cs' := [.string x1, .int .i64 (IntKind.i64.wrap (s2 + 1)), .string x3, .int .i64 (IntKind.i64.wrap ((IntKind.i64.wrap ((IntKind.i64.wrap (s2 + 1)) + 1)) + 1)), .int .i64 (IntKind.i64.wrap ((IntKind.i64.wrap ((IntKind.i64.wrap ((IntKind.i64.wrap (s2 + 1)) + 1)) + 1)) + 1)), .string x4, .int .i64 (IntKind.i64.wrap ((IntKind.i64.wrap ((IntKind.i64.wrap ((IntKind.i64.wrap ((IntKind.i64.wrap ((IntKind.i64.wrap (s2 + 1)) + 1)) + 1)) + 1)) + 1)) + 1)), .string x5, .int .i64 x2.R.V.K, .int .i64 x2.R.V.N, .string x2.R.V.S]) RTExpr.lasts Sz_9 rfl rfl rfl rfl ⟨rfl, trivial⟩ rfl h8 rfl rfl (fun ap => (Dj.nil _))) rfl (fun Φ_9 D9 q8 => ?_)
    obtain ⟨⟨ap8, fr8⟩, h9⟩ := q8
    refine WL.nil ?_
    refine WT.seq ?_
    refine WT.region ?_
    refine lq (q_move rfl) rfl ?_
    refine lq (q_add rfl rfl) rfl ?_
    refine lq (q_assign rfl) rfl ?_
    refine WL.nil ?_
    refine WT.seq ?_
    refine WT.region ?_
    refine lq (q_move rfl) rfl ?_
    refine lq (q_move rfl) rfl ?_
    refine lq (q_move rfl) rfl ?_
    refine lq (q_indexAddrH Sl_144 rfl rfl h9 hx2) rfl ?_
    refine lq (q_fieldAddr Fld_197_2 rfl) rfl ?_
    refine lq (q_fieldAddr Fld_140_2 rfl) rfl ?_
    refine lq (q_fieldAddr Fld_109_0 rfl) rfl ?_
    refine lu (u_setH (js := [0]) (Rr := []) (o := 8) (vs := [.int .i64 (IntKind.i64.wrap ((IntKind.i64.wrap ((IntKind.i64.wrap ((IntKind.i64.wrap ((IntKind.i64.wrap ((IntKind.i64.wrap ((IntKind.i64.wrap ((IntKind.i64.wrap (s2 + 1)) + 1)) + 1)) + 1)) + 1)) + 1)) + 1)) + 1))]) (cs' := [.string x1, .int .i64 (IntKind.i64.wrap (s2 + 1)), .string x3, .int .i64 (IntKind.i64.wrap ((IntKind.i64.wrap ((IntKind.i64.wrap (s2 + 1)) + 1)) + 1)), .int .i64 (IntKind.i64.wrap ((IntKind.i64.wrap ((IntKind.i64.wrap ((IntKind.i64.wrap (s2 + 1)) + 1)) + 1)) + 1)), .string x4, .int .i64 (IntKind.i64.wrap ((IntKind.i64.wrap ((IntKind.i64.wrap ((IntKind.i64.wrap ((IntKind.i64.wrap ((IntKind.i64.wrap (s2 + 1)) + 1)) + 1)) + 1)) + 1)) + 1)), .string x5, .int .i64 (IntKind.i64.wrap ((IntKind.i64.wrap ((IntKind.i64.wrap ((IntKind.i64.wrap ((IntKind.i64.wrap ((IntKind.i64.wrap ((IntKind.i64.wrap ((IntKind.i64.wrap (s2 + 1)) + 1)) + 1)) + 1)) + 1)) + 1)) + 1)) + 1)), .int .i64 x2.R.V.N, .string x2.R.V.S]) RTExpr.lasts Sz_3 rfl rfl rfl rfl ⟨rfl, trivial⟩ rfl h9 rfl rfl (fun ap => (Dj.nil _))) rfl (fun Φ_10 D10 q9 => ?_)
    obtain ⟨⟨ap9, fr9⟩, h10⟩ := q9
    refine WL.nil ?_
    refine WT.seq ?_
    refine WT.region ?_
    refine lq (q_move rfl) rfl ?_
    refine lq (q_add rfl rfl) rfl ?_
    refine lq (q_assign rfl) rfl ?_
    refine WL.nil ?_
    refine WT.seq ?_
    refine WT.region ?_
    refine lq (q_move rfl) rfl ?_
    refine lq (q_move rfl) rfl ?_
    refine lq (q_move rfl) rfl ?_
    refine lq (q_indexAddrH Sl_144 rfl rfl h10 hx2) rfl ?_
    refine lq (q_fieldAddr Fld_197_2 rfl) rfl ?_
    refine lq (q_fieldAddr Fld_140_2 rfl) rfl ?_
    refine lq (q_fieldAddr Fld_109_1 rfl) rfl ?_
    refine lu (u_setH (js := [0]) (Rr := []) (o := 9) (vs := [.int .i64 (IntKind.i64.wrap ((IntKind.i64.wrap ((IntKind.i64.wrap ((IntKind.i64.wrap ((IntKind.i64.wrap ((IntKind.i64.wrap ((IntKind.i64.wrap ((IntKind.i64.wrap ((IntKind.i64.wrap (s2 + 1)) + 1)) + 1)) + 1)) + 1)) + 1)) + 1)) + 1)) + 1))]) (cs' := [.string x1, .int .i64 (IntKind.i64.wrap (s2 + 1)), .string x3, .int .i64 (IntKind.i64.wrap ((IntKind.i64.wrap ((IntKind.i64.wrap (s2 + 1)) + 1)) + 1)), .int .i64 (IntKind.i64.wrap ((IntKind.i64.wrap ((IntKind.i64.wrap ((IntKind.i64.wrap (s2 + 1)) + 1)) + 1)) + 1)), .string x4, .int .i64 (IntKind.i64.wrap ((IntKind.i64.wrap ((IntKind.i64.wrap ((IntKind.i64.wrap ((IntKind.i64.wrap ((IntKind.i64.wrap (s2 + 1)) + 1)) + 1)) + 1)) + 1)) + 1)), .string x5, .int .i64 (IntKind.i64.wrap ((IntKind.i64.wrap ((IntKind.i64.wrap ((IntKind.i64.wrap ((IntKind.i64.wrap ((IntKind.i64.wrap ((IntKind.i64.wrap ((IntKind.i64.wrap (s2 + 1)) + 1)) + 1)) + 1)) + 1)) + 1)) + 1)) + 1)), .int .i64 (IntKind.i64.wrap ((IntKind.i64.wrap ((IntKind.i64.wrap ((IntKind.i64.wrap ((IntKind.i64.wrap ((IntKind.i64.wrap ((IntKind.i64.wrap ((IntKind.i64.wrap ((IntKind.i64.wrap (s2 + 1)) + 1)) + 1)) + 1)) + 1)) + 1)) + 1)) + 1)) + 1)), .string x2.R.V.S]) RTExpr.lasts Sz_3 rfl rfl rfl rfl ⟨rfl, trivial⟩ rfl h10 rfl rfl (fun ap => (Dj.nil _))) rfl (fun Φ_11 D11 q10 => ?_)
    obtain ⟨⟨ap10, fr10⟩, h11⟩ := q10
    refine WL.nil ?_
    refine WT.seq ?_
    refine WT.region ?_
    refine lq (q_move rfl) rfl ?_
    refine lq (q_add rfl rfl) rfl ?_
    refine lq (q_assign rfl) rfl ?_
    refine WL.nil ?_
    refine WT.seq ?_
    refine WT.region ?_
    refine lq (q_move rfl) rfl ?_
    refine lq (q_move rfl) rfl ?_
    refine lq (q_move rfl) rfl ?_
    obtain ⟨x6, hx6, h⟩ := bind_some h
    refine lp (p_call Fun_69 rfl (fun w1 hw => m_l_markText_ok hw.fro N (IntKind.i64.wrap ((IntKind.i64.wrap ((IntKind.i64.wrap ((IntKind.i64.wrap ((IntKind.i64.wrap ((IntKind.i64.wrap ((IntKind.i64.wrap ((IntKind.i64.wrap ((IntKind.i64.wrap ((IntKind.i64.wrap (s2 + 1)) + 1)) + 1)) + 1)) + 1)) + 1)) + 1)) + 1)) + 1)) + 1)) hx6)) rfl ?_
    refine lq (q_indexAddrH Sl_144 rfl rfl h11 hx2) rfl ?_
    refine lq (q_fieldAddr Fld_197_2 rfl) rfl ?_
    refine lq (q_fieldAddr Fld_140_2 rfl) rfl ?_
    refine lq (q_fieldAddr Fld_109_2 rfl) rfl ?_
    refine lu (u_setH (js := [0]) (Rr := []) (o := 10) (vs := [.string x6]) (cs' := [.string x1, .int .i64 (IntKind.i64.wrap (s2 + 1)), .string x3, .int .i64 (IntKind.i64.wrap ((IntKind.i64.wrap ((IntKind.i64.wrap (s2 + 1)) + 1)) + 1)), .int .i64 (IntKind.i64.wrap ((IntKind.i64.wrap ((IntKind.i64.wrap ((IntKind.i64.wrap (s2 + 1)) + 1)) + 1)) + 1)), .string x4, .int .i64 (IntKind.i64.wrap ((IntKind.i64.wrap ((IntKind.i64.wrap ((IntKind.i64.wrap ((IntKind.i64.wrap ((IntKind.i64.wrap (s2 + 1)) + 1)) + 1)) + 1)) + 1)) + 1)), .string x5, .int .i64 (IntKind.i64.wrap ((IntKind.i64.wrap ((IntKind.i64.wrap ((IntKind.i64.wrap ((IntKind.i64.wrap ((IntKind.i64.wrap ((IntKind.i64.wrap ((IntKind.i64.wrap (s2 + 1)) + 1)) + 1)) + 1)) + 1)) + 1)) + 1)) + 1)), .int .i64 (IntKind.i64.wrap ((IntKind.i64.wrap ((IntKind.i64.wrap ((IntKind.i64.wrap ((IntKind.i64.wrap ((IntKind.i64.wrap ((IntKind.i64.wrap ((IntKind.i64.wrap ((IntKind.i64.wrap (s2 + 1)) + 1)) + 1)) + 1)) + 1)) + 1)) + 1)) + 1)) + 1)), .string x6]) RTExpr.lasts Sz_9 rfl rfl rfl rfl ⟨rfl, trivial⟩ rfl h11 rfl rfl (fun ap => (Dj.nil _))) rfl (fun Φ_12 D12 q11 => ?_)
    obtain ⟨⟨ap11, fr11⟩, h12⟩ := q11
    refine WL.nil ?_
    refine WT.region ?_
    refine lq (q_move rfl) rfl ?_
    refine lq (q_add rfl rfl) rfl ?_
    refine lq (q_assign rfl) rfl ?_
    refine WL.nil ?_
    refine WT.inBlock ?_
    refine WT.region ?_
    refine lq (q_move rfl) rfl ?_
    refine lq (q_add rfl rfl) rfl ?_
    refine lq (q_assign rfl) rfl ?_
    refine WL.nil ?_
    have h13 := h12.unfocusF RTExpr.flat (cs := [.string x1, .int .i64 (IntKind.i64.wrap (s2 + 1)), .string x3, .int .i64 (IntKind.i64.wrap ((IntKind.i64.wrap ((IntKind.i64.wrap (s2 + 1)) + 1)) + 1)), .int .i64 (IntKind.i64.wrap ((IntKind.i64.wrap ((IntKind.i64.wrap ((IntKind.i64.wrap (s2 + 1)) + 1)) + 1)) + 1)), .string x4, .int .i64 (IntKind.i64.wrap ((IntKind.i64.wrap ((IntKind.i64.wrap ((IntKind.i64.wrap ((IntKind.i64.wrap ((IntKind.i64.wrap (s2 + 1)) + 1)) + 1)) + 1)) + 1)) + 1)), .string x5, .int .i64 (IntKind.i64.wrap ((IntKind.i64.wrap ((IntKind.i64.wrap ((IntKind.i64.wrap ((IntKind.i64.wrap ((IntKind.i64.wrap ((IntKind.i64.wrap ((IntKind.i64.wrap (s2 + 1)) + 1)) + 1)) + 1)) + 1)) + 1)) + 1)) + 1)), .int .i64 (IntKind.i64.wrap ((IntKind.i64.wrap ((IntKind.i64.wrap ((IntKind.i64.wrap ((IntKind.i64.wrap ((IntKind.i64.wrap ((IntKind.i64.wrap ((IntKind.i64.wrap ((IntKind.i64.wrap (s2 + 1)) + 1)) + 1)) + 1)) + 1)) + 1)) + 1)) + 1)) + 1)), .string x6]) (x' := (⟨x1, (⟨IntKind.i64.wrap (s2 + 1), x3, (⟨IntKind.i64.wrap ((IntKind.i64.wrap ((IntKind.i64.wrap (s2 + 1)) + 1)) + 1), IntKind.i64.wrap ((IntKind.i64.wrap ((IntKind.i64.wrap ((IntKind.i64.wrap (s2 + 1)) + 1)) + 1)) + 1), x4⟩ : TVal)⟩ : TArg), (⟨IntKind.i64.wrap ((IntKind.i64.wrap ((IntKind.i64.wrap ((IntKind.i64.wrap ((IntKind.i64.wrap ((IntKind.i64.wrap (s2 + 1)) + 1)) + 1)) + 1)) + 1)) + 1), x5, (⟨IntKind.i64.wrap ((IntKind.i64.wrap ((IntKind.i64.wrap ((IntKind.i64.wrap ((IntKind.i64.wrap ((IntKind.i64.wrap ((IntKind.i64.wrap ((IntKind.i64.wrap (s2 + 1)) + 1)) + 1)) + 1)) + 1)) + 1)) + 1)) + 1), IntKind.i64.wrap ((IntKind.i64.wrap ((IntKind.i64.wrap ((IntKind.i64.wrap ((IntKind.i64.wrap ((IntKind.i64.wrap ((IntKind.i64.wrap ((IntKind.i64.wrap ((IntKind.i64.wrap (s2 + 1)) + 1)) + 1)) + 1)) + 1)) + 1)) + 1)) + 1)) + 1), x6⟩ : TVal)⟩ : TArg)⟩ : TExpr)) ⟨rfl, rfl⟩
    refine WT.inLoop (WT.mono (l' := [(0, pv0), (1, .int .i64 (IntKind.i64.wrap ((IntKind.i64.wrap ((IntKind.i64.wrap ((IntKind.i64.wrap ((IntKind.i64.wrap ((IntKind.i64.wrap ((IntKind.i64.wrap ((IntKind.i64.wrap ((IntKind.i64.wrap ((IntKind.i64.wrap ((IntKind.i64.wrap (s2 + 1)) + 1)) + 1)) + 1)) + 1)) + 1)) + 1)) + 1)) + 1)) + 1)) + 1))), (5, .int .i64 (IntKind.i64.wrap (s3 + 1)))]) (S' := St w0 Φ_12 [] [ob pv0]) ⟨rfl, rfl, rfl, trivial⟩ (fun w1 hw => (hw.sel (js := [0]) rfl).selO (js := []) rfl) ?_)
    exact ih1 (Φ_12, (s1.set s3.toNat (⟨x1, (⟨IntKind.i64.wrap (s2 + 1), x3, (⟨IntKind.i64.wrap ((IntKind.i64.wrap ((IntKind.i64.wrap (s2 + 1)) + 1)) + 1), IntKind.i64.wrap ((IntKind.i64.wrap ((IntKind.i64.wrap ((IntKind.i64.wrap (s2 + 1)) + 1)) + 1)) + 1), x4⟩ : TVal)⟩ : TArg), (⟨IntKind.i64.wrap ((IntKind.i64.wrap ((IntKind.i64.wrap ((IntKind.i64.wrap ((IntKind.i64.wrap ((IntKind.i64.wrap (s2 + 1)) + 1)) + 1)) + 1)) + 1)) + 1), x5, (⟨IntKind.i64.wrap ((IntKind.i64.wrap ((IntKind.i64.wrap ((IntKind.i64.wrap ((IntKind.i64.wrap ((IntKind.i64.wrap ((IntKind.i64.wrap ((IntKind.i64.wrap (s2 + 1)) + 1)) + 1)) + 1)) + 1)) + 1)) + 1)) + 1), IntKind.i64.wrap ((IntKind.i64.wrap ((IntKind.i64.wrap ((IntKind.i64.wrap ((IntKind.i64.wrap ((IntKind.i64.wrap ((IntKind.i64.wrap ((IntKind.i64.wrap ((IntKind.i64.wrap (s2 + 1)) + 1)) + 1)) + 1)) + 1)) + 1)) + 1)) + 1)) + 1), x6⟩ : TVal)⟩ : TArg)⟩ : TExpr)), IntKind.i64.wrap ((IntKind.i64.wrap ((IntKind.i64.wrap ((IntKind.i64.wrap ((IntKind.i64.wrap ((IntKind.i64.wrap ((IntKind.i64.wrap ((IntKind.i64.wrap ((IntKind.i64.wrap ((IntKind.i64.wrap ((IntKind.i64.wrap (s2 + 1)) + 1)) + 1)) + 1)) + 1)) + 1)) + 1)) + 1)) + 1)) + 1)) + 1), IntKind.i64.wrap (s3 + 1)) ⟨h, h13⟩
  replace h := ite_f h c1
  refine WT.exit rfl ?_
  refine WT.seq ?_
  refine WT.region ?_
  refine lq (q_move rfl) rfl ?_
  refine lq (q_assign rfl) rfl ?_
  refine WL.nil ?_
  refine WT.ret Try.func117 (resOk.one rfl) (fun w1 hw => ?_)
  subst hb0
  cases h
  refine postG_of_St (js := [0]) hw rfl ⟨rfl, rfl, k1⟩
end Go.Proofs.Ytjangilipfjcmaa
