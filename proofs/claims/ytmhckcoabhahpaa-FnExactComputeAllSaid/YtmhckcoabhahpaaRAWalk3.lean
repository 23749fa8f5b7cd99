/- Printed by a program of ours: each Go function computes its Lean function. -/
import Derived.Test.YtmhckcoabhahpaaProg
import Derived.Test.YtmhckcoabhahpaaRAWalk2
namespace Go.Proofs.Ytmhckcoabhahpaa
open Eng
open Go.RowKit (Below)
set_option linter.unusedVariables false
set_option linter.unusedSimpArgs false

set_option maxRecDepth 100000
set_option maxHeartbeats 1000000
theorem m_l_toActS_ok {Φ : Hp} {w : World} (hΦ : In Φ w) (N : Nat) (p0 : (List TAct)) {pv0 : Value} {pG0 : List Nat} (ph0 : RSl RTAct 5 Φ pG0 pv0 p0) {r : (List TAct)} (h : m_l_toActS N p0 = some r) :
    Calls Try.prog 139 [pv0].toArray w (PostG Φ w [] (fun Φ' Fs v => ∃ (sr_0_0 : Value) (Dr_0_0 : List Nat), v = sr_0_0 ∧ Fs = [ob sr_0_0, Dr_0_0] ∧ OSl OTAct 96 5 Φ' Dr_0_0 sr_0_0 r)) := by
  refine enter Try.func139 rfl Try.ntmps139 rfl (St.start0 hΦ) ?_
  have pa0 : Old ⟨w, [], Φ⟩ pG0 := Old.mk hΦ ph0.kn (Dj.empty _)
  revert pa0
  generalize hb0 : (⟨w, [], Φ⟩ : Base) = w0
  intro pa0
  unfold m_l_toActS at h
  refine WT.seq ?_
  refine WT.region ?_
  refine lq (q_assign rfl) rfl ?_
  refine WL.nil ?_
  refine WT.seq ?_
  refine WT.region ?_
  refine lq (q_move rfl) rfl ?_
  refine lq (q_lenR Sl_108 rfl rfl ph0) rfl ?_
  obtain ⟨x1, hx1, h⟩ := bind_some h
  refine le' (e_make (R := OTAct) Sl_64 Zr_96 By_96 rfl rfl rfl (fun _ => ⟨.slice none 0 0, rfl, rfl, OSl.nil _ _ _ _⟩) rfl rfl (Int.le_refl _) hx1 (mk_le hx1)) rfl (fun v1 Φ_1 D1 q1 => ?_)
  obtain ⟨fr1, h1⟩ := q1
  replace ph0 := ph0.frame RTAct.lasts fr1 (Dj.empty _)
  refine WL.conv (S' := St w0 Φ_1 [] ([] :: [ob v1])) (fun w1 hw => hw.addNil) ?_
  refine lq (q_assign rfl) rfl ?_
  refine WL.nil ?_
  refine WT.seq ?_
  refine WT.seq ?_
  refine WT.region ?_
  refine lq (q_assign rfl) rfl ?_
  refine WL.nil ?_
  refine WT.block ?_
  refine WT.loop ?_
  refine WT.mono (l' := [(0, pv0), (3, v1), (4, .int .i64 0)]) (S' := St w0 Φ_1 [] [[], ob v1]) ⟨rfl, rfl, rfl, trivial⟩ (fun w1 hw => (hw.sel (js := [0, 0]) rfl).selO (js := []) rfl) ?_
  refine loop_ind (σ := Hp × (List TAct) × List Nat × Int) (fun s => [(0, pv0), (3, v1), (4, .int .i64 s.2.2.2)]) (fun s => St w0 s.1 [] [s.2.2.1, ob v1]) (fun m s => m_l_toActS_l1 N p0 m s.2.1 s.2.2.2 = some r ∧ (OSl OTAct 96 5 s.1 s.2.2.1 v1 s.2.1) ∧ (RSl RTAct 5 s.1 pG0 pv0 p0)) (fun s hm => none_ne (show (none : Option ((List TAct))) = some r from hm.1)) (fun n1 ih1 s hm => ?_) N (Φ_1, x1, [], 0) ⟨h, h1, ph0⟩
  obtain ⟨Φ_2, s1, D2, s2⟩ := s
  obtain ⟨h, k1, ph0⟩ := hm
  replace h : m_l_toActS_l1 N p0 (n1 + 1) s1 s2 = some r := h
  replace k1 : OSl OTAct 96 5 Φ_2 D2 v1 s1 := k1
  replace ph0 : RSl RTAct 5 Φ_2 pG0 pv0 p0 := ph0
  show WT _ _ [(0, pv0), (3, v1), (4, .int .i64 s2)] (St w0 Φ_2 [] [D2, ob v1])
  unfold m_l_toActS_l1 at h
  refine WT.seq ?_
  refine WT.seq ?_
  refine WT.region ?_
  refine lq (q_move rfl) rfl ?_
  refine lq (q_move rfl) rfl ?_
  refine lq (q_lenR Sl_108 rfl rfl ph0) rfl ?_
  refine lq (q_lss rfl rfl) rfl ?_
  refine WL.nil ?_
  refine WT.cond rfl (fun c1 => ?_) (fun c1 => ?_)
  · replace h := ite_t h c1
    refine WT.skip ?_
    refine WT.seq ?_
    refine WT.block ?_
    refine WT.region ?_
    refine lq (q_move rfl) rfl ?_
    refine lq (q_move rfl) rfl ?_
    refine lq (q_move rfl) rfl ?_
    refine lq (q_move rfl) rfl ?_
    obtain ⟨x2, hx2, h⟩ := bind_some h
    obtain ⟨cs1, F1, -, g1, hb1, hs1, r1⟩ := ph0.el (idx_some hx2).2.2
    obtain ⟨v2, G1, rfl, rfl, h2⟩ := r1
    refine lq (q_indexAddr Sl_108 rfl rfl ph0 hx2) rfl ?_
    refine lq (q_loadN Tn_92 rfl (fun w1 hw => (g1.of_eq 0 5 rfl rfl : rg _ _ _ [.int .i64 x2.Kind, .string x2.Name, v2, .int .i64 x2.N, .string x2.Undo]).rangeAt hw.fro) rfl) rfl ?_
    obtain ⟨x3, hx3, h⟩ := bind_some h
    refine lc (k_call (js := []) (R := [D2, ob v1]) Fun_52 rfl rfl (fun w1 hw ap hl => m_l_toAct_ok hw.fro N x2 h2  hx3)) rfl (fun v3 Φ_3 F2 q2 => ?_)
    obtain ⟨ap1, fr2, v4, rfl, rfl, h3⟩ := q2
    replace ph0 := ph0.frame RTAct.lasts fr2 (ap1.o pa0)
    replace k1 := k1.frame OTAct.lasts fr2 (ap1.r (i := 1) rfl) (ap1.r (i := 0) rfl)
    obtain ⟨x4, hx4, h⟩ := bind_some h
    obtain ⟨cs2, F3, -, g2, hb2, hs2, r2⟩ := k1.elS (idx_some hx4).2.2
    obtain ⟨v5, rfl, rfl, h4⟩ := r2
    have h5 := h4.rsl
    refine lq (q_indexAddr Sl_64 rfl rfl k1.rsl hx4) rfl ?_
    have r3 : OTAct Φ_3 ((ob v4 ++ [])) [.int .i64 x3.Kind, .string x3.Name, v4, .int .i64 x3.N, .string x3.Undo] x3 := ⟨v4, rfl, rfl, h3⟩
    refine lu (u_setO (js := [2]) (Rr := [ob v4, D2]) (vs := [.int .i64 x3.Kind, .string x3.Name, v4, .int .i64 x3.N, .string x3.Undo]) (x' := x3) OTAct.lasts Sz_96 rfl rfl rfl rfl ⟨rfl, rfl, h3.one, rfl, rfl, trivial⟩ rfl k1 (idx_lt hx4) r3 (OTAct.knows _ _ _ _ r3) (fun ap => (ap.r (i := 1) rfl)) (fun ap => by simpa [ob_nil] using (ap.r (i := 0) rfl))) rfl (fun Φ_4 D3 q3 => ?_)
    obtain ⟨⟨ap2, fr3⟩, sp1, h6⟩ := q3
    replace ph0 := ph0.frame RTAct.lasts fr3 (ap2.o pa0)
    refine WL.conv (S' := St w0 Φ_4 [] [D3, ob v1]) (fun w1 hw => hw.merge (js := [2, 1]) rfl (by simpa [List.append_assoc, ob_nil] using sp1)) ?_
    refine WL.nil ?_
    refine WT.inBlock ?_
    refine WT.region ?_
    refine lq (q_move rfl) rfl ?_
    refine lq (q_add rfl rfl) rfl ?_
    refine lq (q_assign rfl) rfl ?_
    refine WL.nil ?_
    refine WT.inLoop (WT.mono (l' := [(0, pv0), (3, v1), (4, .int .i64 (IntKind.i64.wrap (s2 + 1)))]) (S' := St w0 Φ_4 [] [D3, ob v1]) ⟨rfl, rfl, rfl, trivial⟩ (fun w1 hw => (hw.sel (js := [0, 0]) rfl).selO (js := []) rfl) ?_)
    exact ih1 (Φ_4, (s1.set s2.toNat x3), D3, IntKind.i64.wrap (s2 + 1)) ⟨h, h6, ph0⟩
  replace h := ite_f h c1
  refine WT.exit rfl ?_
  refine WT.seq ?_
  refine WT.region ?_
  refine lq (q_move rfl) rfl ?_
  refine lq (q_assign rfl) rfl ?_
  refine WL.nil ?_
  refine WT.ret Try.func139 (resOk.one rfl) (fun w1 hw => ?_)
  subst hb0
  cases h
  refine postG_of_St (js := [1, 0]) hw rfl ⟨v1, D2, rfl, rfl, k1⟩
theorem m_l_toRule_ok {Φ : Hp} {w : World} (hΦ : In Φ w) (N : Nat) (p0 : TRule) {pv0_0 : Value} {pG0_0 : List Nat} {pv0_1 : Value} {pG0_1 : List Nat} {pv0_2 : Value} {pG0_2 : List Nat} (ph0_0 : RSl RTPat 3 Φ pG0_0 pv0_0 p0.Pats) (ph0_1 : RSl RTCond 11 Φ pG0_1 pv0_1 p0.Conds) (ph0_2 : RSl RTAct 5 Φ pG0_2 pv0_2 p0.Acts) {r : TRule} (h : m_l_toRule N p0 = some r) :
    Calls Try.prog 60 [.agg [.string p0.Name, .int .i64 p0.Sal, pv0_0, pv0_1, pv0_2].toArray].toArray w (PostG Φ w [] (fun Φ' Fs v => ∃ (sr_0_0 : Value) (Dr_0_0 : List Nat) (sr_0_1 : Value) (sr_0_2 : Value) (Dr_0_2 : List Nat), v = .agg [.string r.Name, .int .i64 r.Sal, sr_0_0, sr_0_1, sr_0_2].toArray ∧ Fs = [ob sr_0_0, Dr_0_0, ob sr_0_1, ob sr_0_2, Dr_0_2] ∧ OSl OTPat 37 3 Φ' Dr_0_0 sr_0_0 r.Pats ∧ OSl RTCond 206 11 Φ' [] sr_0_1 r.Conds ∧ OSl OTAct 96 5 Φ' Dr_0_2 sr_0_2 r.Acts)) := by
  refine enter Try.func60 rfl Try.ntmps60 rfl (St.start0 hΦ) ?_
  have pa0_0 : Old ⟨w, [], Φ⟩ pG0_0 := Old.mk hΦ ph0_0.kn (Dj.empty _)
  have pa0_1 : Old ⟨w, [], Φ⟩ pG0_1 := Old.mk hΦ ph0_1.kn (Dj.empty _)
  have pa0_2 : Old ⟨w, [], Φ⟩ pG0_2 := Old.mk hΦ ph0_2.kn (Dj.empty _)
  unfold m_l_toRule at h
  refine WT.seq ?_
  refine WT.region ?_
  refine ln (n_box (C := #[.string p0.Name, .int .i64 p0.Sal, pv0_0, pv0_1, pv0_2]) rfl rfl) rfl (fun b_1 => ?_)
  refine ln (n_alloc (C := #[.string (⟨#[]⟩ : ByteArray), .int .i64 0, .slice none 0 0, .slice none 0 0, .slice none 0 0]) Zr_66 rfl) rfl (fun b_2 => ?_)
  refine WL.nil ?_
  refine WT.seq ?_
  refine WT.region ?_
  refine ln (n_alloc (C := #[.string (⟨#[]⟩ : ByteArray), .int .i64 0, .slice none 0 0, .slice none 0 0, .slice none 0 0]) Zr_66 rfl) rfl (fun b_3 => ?_)
  refine WL.nil ?_
  refine WT.seq ?_
  refine WT.region ?_
  refine lq (q_fieldAddr Fld_110_0 rfl) rfl ?_
  refine lq (q_load1 T1_9 rfl (fun w1 hw => hw.rgO (i := 2) rfl 0 1 [.string p0.Name] rfl)) rfl ?_
  refine lq (q_fieldAddr Fld_66_0 rfl) rfl ?_
  refine ls (s_store (i := 0) (vs := [.string p0.Name]) (C' := [.string p0.Name, .int .i64 0, .slice none 0 0, .slice none 0 0, .slice none 0 0]) (O' := [(b_3, .cells #[.string p0.Name, .int .i64 0, .slice none 0 0, .slice none 0 0, .slice none 0 0] 66 (0, 0)), (b_2, .cells #[.string (⟨#[]⟩ : ByteArray), .int .i64 0, .slice none 0 0, .slice none 0 0, .slice none 0 0] 66 (0, 0)), (b_1, .cells #[.string p0.Name, .int .i64 p0.Sal, pv0_0, pv0_1, pv0_2] 110 (0, 0))]) Sz_9 rfl rfl rfl rfl rfl rfl ⟨rfl, trivial⟩ rfl rfl) rfl ?_
  refine WL.nil ?_
  refine WT.seq ?_
  refine WT.region ?_
  refine lq (q_fieldAddr Fld_110_1 rfl) rfl ?_
  refine lq (q_load1 T1_3 rfl (fun w1 hw => hw.rgO (i := 2) rfl 1 1 [.int .i64 p0.Sal] rfl)) rfl ?_
  refine lq (q_fieldAddr Fld_66_1 rfl) rfl ?_
  refine ls (s_store (i := 0) (vs := [.int .i64 p0.Sal]) (C' := [.string p0.Name, .int .i64 p0.Sal, .slice none 0 0, .slice none 0 0, .slice none 0 0]) (O' := [(b_3, .cells #[.string p0.Name, .int .i64 p0.Sal, .slice none 0 0, .slice none 0 0, .slice none 0 0] 66 (0, 0)), (b_2, .cells #[.string (⟨#[]⟩ : ByteArray), .int .i64 0, .slice none 0 0, .slice none 0 0, .slice none 0 0] 66 (0, 0)), (b_1, .cells #[.string p0.Name, .int .i64 p0.Sal, pv0_0, pv0_1, pv0_2] 110 (0, 0))]) Sz_3 rfl rfl rfl rfl rfl rfl ⟨rfl, trivial⟩ rfl rfl) rfl ?_
  refine WL.nil ?_
  refine WT.seq ?_
  refine WT.region ?_
  refine lq (q_fieldAddr Fld_110_2 rfl) rfl ?_
  refine lq (q_load1 T1_106 rfl (fun w1 hw => hw.rgO (i := 2) rfl 2 1 [pv0_0] rfl)) rfl ?_
  obtain ⟨x1, hx1, h⟩ := bind_some h
  refine lc (k_call (js := []) (R := []) Fun_137 rfl rfl (fun w1 hw ap hl => m_l_toPatS_ok hw.fro N p0.Pats ph0_0  hx1)) rfl (fun v1 Φ_1 F1 q1 => ?_)
  obtain ⟨ap1, fr1, v2, D1, rfl, rfl, h1⟩ := q1
  replace ph0_0 := ph0_0.frame RTPat.lasts fr1 (ap1.o pa0_0)
  replace ph0_1 := ph0_1.frame RTCond.lasts fr1 (ap1.o pa0_1)
  replace ph0_2 := ph0_2.frame RTAct.lasts fr1 (ap1.o pa0_2)
  refine lq (q_fieldAddr Fld_66_2 rfl) rfl ?_
  refine ls (s_store (i := 0) (vs := [v1]) (C' := [.string p0.Name, .int .i64 p0.Sal, v1, .slice none 0 0, .slice none 0 0]) (O' := [(b_3, .cells #[.string p0.Name, .int .i64 p0.Sal, v1, .slice none 0 0, .slice none 0 0] 66 (0, 0)), (b_2, .cells #[.string (⟨#[]⟩ : ByteArray), .int .i64 0, .slice none 0 0, .slice none 0 0, .slice none 0 0] 66 (0, 0)), (b_1, .cells #[.string p0.Name, .int .i64 p0.Sal, pv0_0, pv0_1, pv0_2] 110 (0, 0))]) Sz_62 rfl rfl rfl (one_cells h1.one) rfl rfl ⟨h1.one, trivial⟩ rfl rfl) rfl ?_
  refine WL.nil ?_
  refine WT.seq ?_
  refine WT.region ?_
  refine lq (q_fieldAddr Fld_110_3 rfl) rfl ?_
  refine lq (q_load1 T1_107 rfl (fun w1 hw => hw.rgO (i := 2) rfl 3 1 [pv0_1] rfl)) rfl ?_
  obtain ⟨x2, hx2, h⟩ := bind_some h
  refine lc (k_call (js := []) (R := [ob v1, D1]) Fun_138 rfl rfl (fun w1 hw ap hl => m_l_toCondS_ok hw.fro N p0.Conds ph0_1  hx2)) rfl (fun v3 Φ_2 F2 q2 => ?_)
  obtain ⟨ap2, fr2, v4, rfl, rfl, h2⟩ := q2
  replace ph0_0 := ph0_0.frame RTPat.lasts fr2 (ap2.o pa0_0)
  replace ph0_1 := ph0_1.frame RTCond.lasts fr2 (ap2.o pa0_1)
  replace ph0_2 := ph0_2.frame RTAct.lasts fr2 (ap2.o pa0_2)
  replace h1 := h1.frame OTPat.lasts fr2 (ap2.r (i := 0) rfl) (ap2.r (i := 1) rfl)
  refine lq (q_fieldAddr Fld_66_3 rfl) rfl ?_
  refine ls (s_store (i := 0) (vs := [v3]) (C' := [.string p0.Name, .int .i64 p0.Sal, v1, v3, .slice none 0 0]) (O' := [(b_3, .cells #[.string p0.Name, .int .i64 p0.Sal, v1, v3, .slice none 0 0] 66 (0, 0)), (b_2, .cells #[.string (⟨#[]⟩ : ByteArray), .int .i64 0, .slice none 0 0, .slice none 0 0, .slice none 0 0] 66 (0, 0)), (b_1, .cells #[.string p0.Name, .int .i64 p0.Sal, pv0_0, pv0_1, pv0_2] 110 (0, 0))]) Sz_63 rfl rfl rfl (one_cells h2.one) rfl rfl ⟨h2.one, trivial⟩ rfl rfl) rfl ?_
  refine WL.nil ?_
  refine WT.seq ?_
  refine WT.region ?_
  refine lq (q_fieldAddr Fld_110_4 rfl) rfl ?_
  refine lq (q_load1 T1_108 rfl (fun w1 hw => hw.rgO (i := 2) rfl 4 1 [pv0_2] rfl)) rfl ?_
  obtain ⟨x3, hx3, h⟩ := bind_some h
  refine lc (k_call (js := []) (R := [ob v3, ob v1, D1]) Fun_139 rfl rfl (fun w1 hw ap hl => m_l_toActS_ok hw.fro N p0.Acts ph0_2  hx3)) rfl (fun v5 Φ_3 F3 q3 => ?_)
  obtain ⟨ap3, fr3, v6, D2, rfl, rfl, h3⟩ := q3
  replace h1 := h1.frame OTPat.lasts fr3 (ap3.r (i := 1) rfl) (ap3.r (i := 2) rfl)
  replace h2 := h2.frame RTCond.lasts fr3 (ap3.r (i := 0) rfl) (Dj.nil _)
  refine lq (q_fieldAddr Fld_66_4 rfl) rfl ?_
  refine ls (s_store (i := 0) (vs := [v5]) (C' := [.string p0.Name, .int .i64 p0.Sal, v1, v3, v5]) (O' := [(b_3, .cells #[.string p0.Name, .int .i64 p0.Sal, v1, v3, v5] 66 (0, 0)), (b_2, .cells #[.string (⟨#[]⟩ : ByteArray), .int .i64 0, .slice none 0 0, .slice none 0 0, .slice none 0 0] 66 (0, 0)), (b_1, .cells #[.string p0.Name, .int .i64 p0.Sal, pv0_0, pv0_1, pv0_2] 110 (0, 0))]) Sz_64 rfl rfl rfl (one_cells h3.one) rfl rfl ⟨h3.one, trivial⟩ rfl rfl) rfl ?_
  refine WL.nil ?_
  refine WT.seq ?_
  refine WT.region ?_
  refine lq (q_loadN Tn_66 rfl (fun w1 hw => hw.rgO (i := 0) rfl 0 5 [.string p0.Name, .int .i64 p0.Sal, v1, v3, v5] rfl) rfl) rfl ?_
  refine ls (s_store (i := 1) (vs := [.string p0.Name, .int .i64 p0.Sal, v1, v3, v5]) (C' := [.string p0.Name, .int .i64 p0.Sal, v1, v3, v5]) (O' := [(b_3, .cells #[.string p0.Name, .int .i64 p0.Sal, v1, v3, v5] 66 (0, 0)), (b_2, .cells #[.string p0.Name, .int .i64 p0.Sal, v1, v3, v5] 66 (0, 0)), (b_1, .cells #[.string p0.Name, .int .i64 p0.Sal, pv0_0, pv0_1, pv0_2] 110 (0, 0))]) Sz_66 rfl rfl rfl rfl rfl rfl ⟨rfl, rfl, h1.one, h2.one, h3.one, trivial⟩ rfl rfl) rfl ?_
  refine WL.nil ?_
  refine WT.ret Try.func60 (resOk.one (rv_cell Tn_66 rfl (fun w1 hw => hw.rgO (i := 1) rfl 0 5 [.string p0.Name, .int .i64 p0.Sal, v1, v3, v5] rfl) rfl)) (fun w1 hw => ?_)
  cases h
  refine postG_of_St (js := [3, 3, 2, 0, 0]) hw rfl ⟨v1, D1, v3, v5, D2, rfl, rfl, h1, h2, h3⟩
theorem m_i_PosCount_ok {Φ : Hp} {w : World} (hΦ : In Φ w) (N : Nat) (p0 : TRule) {pv0_0 : Value} {pG0_0 : List Nat} {pv0_1 : Value} {pG0_1 : List Nat} {pv0_2 : Value} {pG0_2 : List Nat} (ph0_0 : RSl RTPat 3 Φ pG0_0 pv0_0 p0.Pats) (ph0_1 : RSl RTCond 11 Φ pG0_1 pv0_1 p0.Conds) (ph0_2 : RSl RTAct 5 Φ pG0_2 pv0_2 p0.Acts) {r : Int} (h : m_i_PosCount N p0 = some r) :
    Calls Try.prog 61 [.agg [.string p0.Name, .int .i64 p0.Sal, pv0_0, pv0_1, pv0_2].toArray].toArray w (Post (.int .i64 r) w) := by
  refine enter Try.func61 rfl Try.ntmps61 rfl (St.start0 hΦ) ?_
  generalize hb0 : (⟨w, [], Φ⟩ : Base) = w0
  unfold m_i_PosCount at h
  refine WT.seq ?_
  refine WT.region ?_
  refine ln (n_box (C := #[.string p0.Name, .int .i64 p0.Sal, pv0_0, pv0_1, pv0_2]) rfl rfl) rfl (fun b_1 => ?_)
  refine lq (q_assign rfl) rfl ?_
  refine WL.nil ?_
  refine WT.seq ?_
  refine WT.region ?_
  refine lq (q_assign rfl) rfl ?_
  refine WL.nil ?_
  refine WT.seq ?_
  refine WT.seq ?_
  refine WT.region ?_
  refine lq (q_fieldAddr Fld_66_2 rfl) rfl ?_
  refine lq (q_load1 T1_62 rfl (fun w1 hw => hw.rgO (i := 0) rfl 2 1 [pv0_0] rfl)) rfl ?_
  refine lq (q_lenR Sl_62 rfl rfl ph0_0) rfl ?_
  refine lq (q_move rfl) rfl ?_
  refine WL.nil ?_
  refine WT.block ?_
  refine WT.loop ?_
  refine WT.mono (l' := [(3, .int .i64 0), (7, pv0_0), (8, .int .i64 (p0.Pats.length : Int)), (9, .int .i64 0)]) (S' := St w0 Φ [] []) ⟨rfl, rfl, rfl, rfl, trivial⟩ (fun w1 hw => (hw.sel (js := []) rfl).selO (js := []) rfl) ?_
  refine loop_ind (σ := Int × Int) (fun s => [(3, .int .i64 s.1), (7, pv0_0), (8, .int .i64 (p0.Pats.length : Int)), (9, .int .i64 s.2)]) (fun s => St w0 Φ [] []) (fun m s => m_i_PosCount_l1 N p0 m s.1 s.2 = some r) (fun s hm => none_ne (show (none : Option (Int)) = some r from hm)) (fun n1 ih1 s hm => ?_) N (0, 0) h
  obtain ⟨s1, s2⟩ := s
  have h : m_i_PosCount_l1 N p0 (n1 + 1) s1 s2 = some r := hm
  show WT _ _ [(3, .int .i64 s1), (7, pv0_0), (8, .int .i64 (p0.Pats.length : Int)), (9, .int .i64 s2)] (St w0 Φ [] [])
  unfold m_i_PosCount_l1 at h
  refine WT.seq ?_
  refine WT.region ?_
  refine lq (q_lss rfl rfl) rfl ?_
  refine WL.nil ?_
  refine WT.seq ?_
  refine WT.cond rfl (fun c1 => ?_) (fun c1 => ?_)
  · replace h := ite_t h c1
    refine WT.skip ?_
    refine WT.seq ?_
    refine WT.block ?_
    refine WT.seq ?_
    refine WT.region ?_
    obtain ⟨x1, hx1, h⟩ := bind_some h
    obtain ⟨cs1, F1, -, g1, hb1, hs1, r1⟩ := ph0_0.el (idx_some hx1).2.2
    obtain ⟨v1, G1, rfl, rfl, h1⟩ := r1
    refine lq (q_indexAddr Sl_62 rfl rfl ph0_0 hx1) rfl ?_
    refine lq (q_loadN Tn_37 rfl (fun w1 hw => (g1.of_eq 0 3 rfl rfl : rg _ _ _ [.string x1.Kind, v1, .bool x1.Not]).rangeAt hw.fro) rfl) rfl ?_
    refine ln (n_alloc (C := #[.string (⟨#[]⟩ : ByteArray), .slice none 0 0, .bool false]) Zr_37 rfl) rfl (fun b_2 => ?_)
    refine ls (s_store (i := 0) (vs := [.string x1.Kind, v1, .bool x1.Not]) (C' := [.string x1.Kind, v1, .bool x1.Not]) (O' := [(b_2, .cells #[.string x1.Kind, v1, .bool x1.Not] 37 (0, 0))]) Sz_37 rfl rfl rfl rfl rfl rfl ⟨rfl, h1.one, rfl, trivial⟩ rfl rfl) rfl ?_
    refine WL.nil ?_
    refine WT.seq ?_
    refine WT.region ?_
    refine lq (q_fieldAddr Fld_37_2 rfl) rfl ?_
    refine lq (q_load1 T1_4 rfl (fun w1 hw => hw.rgO (i := 0) rfl 2 1 [.bool x1.Not] rfl)) rfl ?_
    refine lq (q_not rfl) rfl ?_
    refine WL.nil ?_
    refine WT.cond rfl (fun c2 => ?_) (fun c2 => ?_)
    · replace h := ite_t h c2
      refine WT.region ?_
      refine lq (q_move rfl) rfl ?_
      refine lq (q_add rfl rfl) rfl ?_
      refine lq (q_assign rfl) rfl ?_
      refine WL.nil ?_
      refine WT.inBlock ?_
      refine WT.region ?_
      refine lq (q_add rfl rfl) rfl ?_
      refine lq (q_move rfl) rfl ?_
      refine WL.nil ?_
      refine WT.inLoop (WT.mono (l' := [(3, .int .i64 (IntKind.i64.wrap (s1 + 1))), (7, pv0_0), (8, .int .i64 (p0.Pats.length : Int)), (9, .int .i64 (IntKind.i64.wrap (s2 + 1)))]) (S' := St w0 Φ [] []) ⟨rfl, rfl, rfl, rfl, trivial⟩ (fun w1 hw => (hw.sel (js := []) rfl).selO (js := []) rfl) ?_)
      exact ih1 (IntKind.i64.wrap (s1 + 1), IntKind.i64.wrap (s2 + 1)) h
    replace h := ite_f h c2
    refine WT.skip ?_
    refine WT.inBlock ?_
    refine WT.region ?_
    refine lq (q_add rfl rfl) rfl ?_
    refine lq (q_move rfl) rfl ?_
    refine WL.nil ?_
    refine WT.inLoop (WT.mono (l' := [(3, .int .i64 s1), (7, pv0_0), (8, .int .i64 (p0.Pats.length : Int)), (9, .int .i64 (IntKind.i64.wrap (s2 + 1)))]) (S' := St w0 Φ [] []) ⟨rfl, rfl, rfl, rfl, trivial⟩ (fun w1 hw => (hw.sel (js := []) rfl).selO (js := []) rfl) ?_)
    exact ih1 (s1, IntKind.i64.wrap (s2 + 1)) h
  replace h := ite_f h c1
  refine WT.exit rfl ?_
  refine WT.seq ?_
  refine WT.region ?_
  refine lq (q_move rfl) rfl ?_
  refine lq (q_assign rfl) rfl ?_
  refine WL.nil ?_
  refine WT.ret Try.func61 (resOk.one rfl) (fun w1 hw => ?_)
  subst hb0
  cases h
  exact post_of_St hw
theorem m_l_eqArgS_ok {Φ : Hp} {w : World} (hΦ : In Φ w) (N : Nat) (p0 : (List TArg)) (p1 : (List TArg)) {pv0 : Value} {pG0 : List Nat} {pv1 : Value} {pG1 : List Nat} (ph0 : RSl RTArg 5 Φ pG0 pv0 p0) (ph1 : RSl RTArg 5 Φ pG1 pv1 p1) {r : Bool} (h : m_l_eqArgS N p0 p1 = some r) :
    Calls Try.prog 208 [pv0, pv1].toArray w (Post (.bool r) w) := by
  refine enter Try.func208 rfl Try.ntmps208 rfl (St.start0 hΦ) ?_
  generalize hb0 : (⟨w, [], Φ⟩ : Base) = w0
  unfold m_l_eqArgS at h
  refine WT.seq ?_
  refine WT.region ?_
  refine lq (q_assign rfl) rfl ?_
  refine WL.nil ?_
  refine WT.seq ?_
  refine WT.seq ?_
  refine WT.region ?_
  refine lq (q_move rfl) rfl ?_
  refine lq (q_lenR Sl_35 rfl rfl ph0) rfl ?_
  refine lq (q_move rfl) rfl ?_
  refine lq (q_lenR Sl_35 rfl rfl ph1) rfl ?_
  refine lq (q_neq rfl rfl) rfl ?_
  refine WL.nil ?_
  refine WT.cond rfl (fun c1 => ?_) (fun c1 => ?_)
  · replace h := ite_t h c1
    refine WT.seq ?_
    refine WT.region ?_
    refine lq (q_assign rfl) rfl ?_
    refine WL.nil ?_
    refine WT.ret Try.func208 (resOk.one rfl) (fun w1 hw => ?_)
    subst hb0
    cases h
    exact post_of_St hw
  replace h := ite_f h c1
  refine WT.skip ?_
  refine WT.seq ?_
  refine WT.seq ?_
  refine WT.region ?_
  refine lq (q_assign rfl) rfl ?_
  refine WL.nil ?_
  refine WT.block ?_
  refine WT.loop ?_
  refine WT.mono (l' := [(0, pv0), (1, pv1), (5, .int .i64 0)]) (S' := St w0 Φ [] []) ⟨rfl, rfl, rfl, trivial⟩ (fun w1 hw => (hw.sel (js := []) rfl).selO (js := []) rfl) ?_
  refine loop_ind (σ := Int) (fun s => [(0, pv0), (1, pv1), (5, .int .i64 s)]) (fun s => St w0 Φ [] []) (fun m s => m_l_eqArgS_l1 N p0 p1 m s = some r) (fun s hm => none_ne (show (none : Option (Bool)) = some r from hm)) (fun n1 ih1 s hm => ?_) N (0) h
  revert hm; revert s; intro s1 hm
  have h : m_l_eqArgS_l1 N p0 p1 (n1 + 1) s1 = some r := hm
  show WT _ _ [(0, pv0), (1, pv1), (5, .int .i64 s1)] (St w0 Φ [] [])
  unfold m_l_eqArgS_l1 at h
  refine WT.seq ?_
  refine WT.seq ?_
  refine WT.region ?_
  refine lq (q_move rfl) rfl ?_
  refine lq (q_move rfl) rfl ?_
  refine lq (q_lenR Sl_35 rfl rfl ph0) rfl ?_
  refine lq (q_lss rfl rfl) rfl ?_
  refine WL.nil ?_
  refine WT.cond rfl (fun c2 => ?_) (fun c2 => ?_)
  · replace h := ite_t h c2
    refine WT.skip ?_
    refine WT.seq ?_
    refine WT.block ?_
    refine WT.seq ?_
    refine WT.draw mixed (by kernel_rfl) (fun _ h => h.drew) ?_
    refine qq (q_move rfl) rfl ?_
    refine qq (q_move rfl) rfl ?_
    obtain ⟨x1, hx1, h⟩ := bind_some h
    obtain ⟨cs1, F1, -, g1, hb1, hs1, r1⟩ := ph0.el (idx_some hx1).2.2
    obtain ⟨rfl, -⟩ := r1
    refine qq (q_indexAddr Sl_35 rfl rfl ph0 hx1) rfl ?_
    refine qq (q_loadN Tn_83 rfl (fun w1 hw => (g1.of_eq 0 5 rfl rfl : rg _ _ _ [.int .i64 x1.K, .string x1.S, .int .i64 x1.V.K, .int .i64 x1.V.N, .string x1.V.S]).rangeAt hw.fro) rfl) rfl ?_
    refine qq (q_move rfl) rfl ?_
    refine qq (q_move rfl) rfl ?_
    obtain ⟨x2, hx2, h⟩ := bind_some h
    obtain ⟨cs2, F2, -, g2, hb2, hs2, r2⟩ := ph1.el (idx_some hx2).2.2
    obtain ⟨rfl, -⟩ := r2
    refine qq (q_indexAddr Sl_35 rfl rfl ph1 hx2) rfl ?_
    refine qq (q_loadN Tn_83 rfl (fun w1 hw => (g2.of_eq 0 5 rfl rfl : rg _ _ _ [.int .i64 x2.K, .string x2.S, .int .i64 x2.V.K, .int .i64 x2.V.N, .string x2.V.S]).rangeAt hw.fro) rfl) rfl ?_
    obtain ⟨x3, hx3, h⟩ := bind_some h
    refine qp (p_call Fun_189 rfl (fun w1 hw => m_l_eqArg_ok hw.fro N x1 x2 hx3)) rfl ?_
    refine qq (q_not rfl) rfl ?_
    refine WQ.nil ?_
    refine WT.cond rfl (fun c3 => ?_) (fun c3 => ?_)
    · replace h := ite_t h c3
      refine WT.seq ?_
      refine WT.region ?_
      refine lq (q_assign rfl) rfl ?_
      refine WL.nil ?_
      refine WT.ret Try.func208 (resOk.one rfl) (fun w1 hw => ?_)
      subst hb0
      cases h
      exact post_of_St hw
    replace h := ite_f h c3
    refine WT.skip ?_
    refine WT.inBlock ?_
    refine WT.region ?_
    refine lq (q_move rfl) rfl ?_
    refine lq (q_add rfl rfl) rfl ?_
    refine lq (q_assign rfl) rfl ?_
    refine WL.nil ?_
    refine WT.inLoop (WT.mono (l' := [(0, pv0), (1, pv1), (5, .int .i64 (IntKind.i64.wrap (s1 + 1)))]) (S' := St w0 Φ [] []) ⟨rfl, rfl, rfl, trivial⟩ (fun w1 hw => (hw.sel (js := []) rfl).selO (js := []) rfl) ?_)
    exact ih1 (IntKind.i64.wrap (s1 + 1)) h
  replace h := ite_f h c2
  refine WT.exit rfl ?_
  refine WT.seq ?_
  refine WT.region ?_
  refine lq (q_assign rfl) rfl ?_
  refine WL.nil ?_
  refine WT.ret Try.func208 (resOk.one rfl) (fun w1 hw => ?_)
  subst hb0
  cases h
  exact post_of_St hw
theorem m_l_eqPat_ok {Φ : Hp} {w : World} (hΦ : In Φ w) (N : Nat) (p0 : TPat) (p1 : TPat) {pv0_0 : Value} {pG0_0 : List Nat} {pv1_0 : Value} {pG1_0 : List Nat} (ph0_0 : RSl RTArg 5 Φ pG0_0 pv0_0 p0.Args) (ph1_0 : RSl RTArg 5 Φ pG1_0 pv1_0 p1.Args) {r : Bool} (h : m_l_eqPat N p0 p1 = some r) :
    Calls Try.prog 183 [.agg [.string p0.Kind, pv0_0, .bool p0.Not].toArray, .agg [.string p1.Kind, pv1_0, .bool p1.Not].toArray].toArray w (Post (.bool r) w) := by
  refine enter Try.func183 rfl Try.ntmps183 rfl (St.start0 hΦ) ?_
  unfold m_l_eqPat at h
  refine WT.seq ?_
  refine WT.region ?_
  refine ln (n_box (C := #[.string p0.Kind, pv0_0, .bool p0.Not]) rfl rfl) rfl (fun b_1 => ?_)
  refine ln (n_box (C := #[.string p1.Kind, pv1_0, .bool p1.Not]) rfl rfl) rfl (fun b_2 => ?_)
  refine lq (q_assign rfl) rfl ?_
  refine WL.nil ?_
  refine WT.seq ?_
  refine WT.seq ?_
  refine WT.region ?_
  refine lq (q_fieldAddr Fld_37_0 rfl) rfl ?_
  refine lq (q_load1 T1_9 rfl (fun w1 hw => hw.rgO (i := 1) rfl 0 1 [.string p0.Kind] rfl)) rfl ?_
  refine lq (q_fieldAddr Fld_37_0 rfl) rfl ?_
  refine lq (q_load1 T1_9 rfl (fun w1 hw => hw.rgO (i := 0) rfl 0 1 [.string p1.Kind] rfl)) rfl ?_
  refine lq (q_sne rfl rfl) rfl ?_
  refine WL.nil ?_
  refine WT.cond rfl (fun c1 => ?_) (fun c1 => ?_)
  · replace h := ite_t h c1
    refine WT.seq ?_
    refine WT.region ?_
    refine lq (q_assign rfl) rfl ?_
    refine WL.nil ?_
    refine WT.ret Try.func183 (resOk.one rfl) (fun w1 hw => ?_)
    cases h
    exact post_of_St hw
  replace h := ite_f h c1
  refine WT.skip ?_
  refine WT.seq ?_
  refine WT.seq ?_
  refine WT.region ?_
  refine lq (q_fieldAddr Fld_37_1 rfl) rfl ?_
  refine lq (q_load1 T1_35 rfl (fun w1 hw => hw.rgO (i := 1) rfl 1 1 [pv0_0] rfl)) rfl ?_
  refine lq (q_fieldAddr Fld_37_1 rfl) rfl ?_
  refine lq (q_load1 T1_35 rfl (fun w1 hw => hw.rgO (i := 0) rfl 1 1 [pv1_0] rfl)) rfl ?_
  obtain ⟨x1, hx1, h⟩ := bind_some h
  refine lp (p_call Fun_208 rfl (fun w1 hw => m_l_eqArgS_ok hw.fro N p0.Args p1.Args ph0_0 ph1_0 hx1)) rfl ?_
  refine lq (q_not rfl) rfl ?_
  refine WL.nil ?_
  refine WT.cond rfl (fun c2 => ?_) (fun c2 => ?_)
  · replace h := ite_t h c2
    refine WT.seq ?_
    refine WT.region ?_
    refine lq (q_assign rfl) rfl ?_
    refine WL.nil ?_
    refine WT.ret Try.func183 (resOk.one rfl) (fun w1 hw => ?_)
    cases h
    exact post_of_St hw
  replace h := ite_f h c2
  refine WT.skip ?_
  refine WT.seq ?_
  refine WT.seq ?_
  refine WT.region ?_
  refine lq (q_fieldAddr Fld_37_2 rfl) rfl ?_
  refine lq (q_load1 T1_4 rfl (fun w1 hw => hw.rgO (i := 1) rfl 2 1 [.bool p0.Not] rfl)) rfl ?_
  refine lq (q_fieldAddr Fld_37_2 rfl) rfl ?_
  refine lq (q_load1 T1_4 rfl (fun w1 hw => hw.rgO (i := 0) rfl 2 1 [.bool p1.Not] rfl)) rfl ?_
  refine lq (q_bne Bo_4 rfl rfl) rfl ?_
  refine WL.nil ?_
  refine WT.cond rfl (fun c3 => ?_) (fun c3 => ?_)
  · replace h := ite_t h c3
    refine WT.seq ?_
    refine WT.region ?_
    refine lq (q_assign rfl) rfl ?_
    refine WL.nil ?_
    refine WT.ret Try.func183 (resOk.one rfl) (fun w1 hw => ?_)
    cases h
    exact post_of_St hw
  replace h := ite_f h c3
  refine WT.skip ?_
  refine WT.seq ?_
  refine WT.region ?_
  refine lq (q_assign rfl) rfl ?_
  refine WL.nil ?_
  refine WT.ret Try.func183 (resOk.one rfl) (fun w1 hw => ?_)
  cases h
  exact post_of_St hw
theorem m_l_eqPatS_ok {Φ : Hp} {w : World} (hΦ : In Φ w) (N : Nat) (p0 : (List TPat)) (p1 : (List TPat)) {pv0 : Value} {pG0 : List Nat} {pv1 : Value} {pG1 : List Nat} (ph0 : RSl RTPat 3 Φ pG0 pv0 p0) (ph1 : RSl RTPat 3 Φ pG1 pv1 p1) {r : Bool} (h : m_l_eqPatS N p0 p1 = some r) :
    Calls Try.prog 140 [pv0, pv1].toArray w (Post (.bool r) w) := by
  refine enter Try.func140 rfl Try.ntmps140 rfl (St.start0 hΦ) ?_
  generalize hb0 : (⟨w, [], Φ⟩ : Base) = w0
  unfold m_l_eqPatS at h
  refine WT.seq ?_
  refine WT.region ?_
  refine lq (q_assign rfl) rfl ?_
  refine WL.nil ?_
  refine WT.seq ?_
  refine WT.seq ?_
  refine WT.region ?_
  refine lq (q_move rfl) rfl ?_
  refine lq (q_lenR Sl_62 rfl rfl ph0) rfl ?_
  refine lq (q_move rfl) rfl ?_
  refine lq (q_lenR Sl_62 rfl rfl ph1) rfl ?_
  refine lq (q_neq rfl rfl) rfl ?_
  refine WL.nil ?_
  refine WT.cond rfl (fun c1 => ?_) (fun c1 => ?_)
  · replace h := ite_t h c1
    refine WT.seq ?_
    refine WT.region ?_
    refine lq (q_assign rfl) rfl ?_
    refine WL.nil ?_
    refine WT.ret Try.func140 (resOk.one rfl) (fun w1 hw => ?_)
    subst hb0
    cases h
    exact post_of_St hw
  replace h := ite_f h c1
  refine WT.skip ?_
  refine WT.seq ?_
  refine WT.seq ?_
  refine WT.region ?_
  refine lq (q_assign rfl) rfl ?_
  refine WL.nil ?_
  refine WT.block ?_
  refine WT.loop ?_
  refine WT.mono (l' := [(0, pv0), (1, pv1), (5, .int .i64 0)]) (S' := St w0 Φ [] []) ⟨rfl, rfl, rfl, trivial⟩ (fun w1 hw => (hw.sel (js := []) rfl).selO (js := []) rfl) ?_
  refine loop_ind (σ := Int) (fun s => [(0, pv0), (1, pv1), (5, .int .i64 s)]) (fun s => St w0 Φ [] []) (fun m s => m_l_eqPatS_l1 N p0 p1 m s = some r) (fun s hm => none_ne (show (none : Option (Bool)) = some r from hm)) (fun n1 ih1 s hm => ?_) N (0) h
  revert hm; revert s; intro s1 hm
  have h : m_l_eqPatS_l1 N p0 p1 (n1 + 1) s1 = some r := hm
  show WT _ _ [(0, pv0), (1, pv1), (5, .int .i64 s1)] (St w0 Φ [] [])
  unfold m_l_eqPatS_l1 at h
  refine WT.seq ?_
  refine WT.seq ?_
  refine WT.region ?_
  refine lq (q_move rfl) rfl ?_
  refine lq (q_move rfl) rfl ?_
  refine lq (q_lenR Sl_62 rfl rfl ph0) rfl ?_
  refine lq (q_lss rfl rfl) rfl ?_
  refine WL.nil ?_
  refine WT.cond rfl (fun c2 => ?_) (fun c2 => ?_)
  · replace h := ite_t h c2
    refine WT.skip ?_
    refine WT.seq ?_
    refine WT.block ?_
    refine WT.seq ?_
    refine WT.draw mixed (by kernel_rfl) (fun _ h => h.drew) ?_
    refine qq (q_move rfl) rfl ?_
    refine qq (q_move rfl) rfl ?_
    obtain ⟨x1, hx1, h⟩ := bind_some h
    obtain ⟨cs1, F1, -, g1, hb1, hs1, r1⟩ := ph0.el (idx_some hx1).2.2
    obtain ⟨v1, G1, rfl, rfl, h1⟩ := r1
    refine qq (q_indexAddr Sl_62 rfl rfl ph0 hx1) rfl ?_
    refine qq (q_loadN Tn_37 rfl (fun w1 hw => (g1.of_eq 0 3 rfl rfl : rg _ _ _ [.string x1.Kind, v1, .bool x1.Not]).rangeAt hw.fro) rfl) rfl ?_
    refine qq (q_move rfl) rfl ?_
    refine qq (q_move rfl) rfl ?_
    obtain ⟨x2, hx2, h⟩ := bind_some h
    obtain ⟨cs2, F2, -, g2, hb2, hs2, r2⟩ := ph1.el (idx_some hx2).2.2
    obtain ⟨v2, G2, rfl, rfl, h2⟩ := r2
    refine qq (q_indexAddr Sl_62 rfl rfl ph1 hx2) rfl ?_
    refine qq (q_loadN Tn_37 rfl (fun w1 hw => (g2.of_eq 0 3 rfl rfl : rg _ _ _ [.string x2.Kind, v2, .bool x2.Not]).rangeAt hw.fro) rfl) rfl ?_
    obtain ⟨x3, hx3, h⟩ := bind_some h
    refine qp (p_call Fun_183 rfl (fun w1 hw => m_l_eqPat_ok hw.fro N x1 x2 h1 h2 hx3)) rfl ?_
    refine qq (q_not rfl) rfl ?_
    refine WQ.nil ?_
    refine WT.cond rfl (fun c3 => ?_) (fun c3 => ?_)
    · replace h := ite_t h c3
      refine WT.seq ?_
      refine WT.region ?_
      refine lq (q_assign rfl) rfl ?_
      refine WL.nil ?_
      refine WT.ret Try.func140 (resOk.one rfl) (fun w1 hw => ?_)
      subst hb0
      cases h
      exact post_of_St hw
    replace h := ite_f h c3
    refine WT.skip ?_
    refine WT.inBlock ?_
    refine WT.region ?_
    refine lq (q_move rfl) rfl ?_
    refine lq (q_add rfl rfl) rfl ?_
    refine lq (q_assign rfl) rfl ?_
    refine WL.nil ?_
    refine WT.inLoop (WT.mono (l' := [(0, pv0), (1, pv1), (5, .int .i64 (IntKind.i64.wrap (s1 + 1)))]) (S' := St w0 Φ [] []) ⟨rfl, rfl, rfl, trivial⟩ (fun w1 hw => (hw.sel (js := []) rfl).selO (js := []) rfl) ?_)
    exact ih1 (IntKind.i64.wrap (s1 + 1)) h
  replace h := ite_f h c2
  refine WT.exit rfl ?_
  refine WT.seq ?_
  refine WT.region ?_
  refine lq (q_assign rfl) rfl ?_
  refine WL.nil ?_
  refine WT.ret Try.func140 (resOk.one rfl) (fun w1 hw => ?_)
  subst hb0
  cases h
  exact post_of_St hw
theorem m_l_eqCond_ok {Φ : Hp} {w : World} (hΦ : In Φ w) (N : Nat) (p0 : TCond) (p1 : TCond)   {r : Bool} (h : m_l_eqCond N p0 p1 = some r) :
    Calls Try.prog 184 [.agg [.int .i64 p0.Op, .int .i64 p0.L.K, .string p0.L.S, .int .i64 p0.L.V.K, .int .i64 p0.L.V.N, .string p0.L.V.S, .int .i64 p0.R.K, .string p0.R.S, .int .i64 p0.R.V.K, .int .i64 p0.R.V.N, .string p0.R.V.S].toArray, .agg [.int .i64 p1.Op, .int .i64 p1.L.K, .string p1.L.S, .int .i64 p1.L.V.K, .int .i64 p1.L.V.N, .string p1.L.V.S, .int .i64 p1.R.K, .string p1.R.S, .int .i64 p1.R.V.K, .int .i64 p1.R.V.N, .string p1.R.V.S].toArray].toArray w (Post (.bool r) w) := by
  refine enter Try.func184 rfl Try.ntmps184 rfl (St.start0 hΦ) ?_
  unfold m_l_eqCond at h
  refine WT.seq ?_
  refine WT.region ?_
  refine ln (n_box (C := #[.int .i64 p0.Op, .int .i64 p0.L.K, .string p0.L.S, .int .i64 p0.L.V.K, .int .i64 p0.L.V.N, .string p0.L.V.S, .int .i64 p0.R.K, .string p0.R.S, .int .i64 p0.R.V.K, .int .i64 p0.R.V.N, .string p0.R.V.S]) rfl rfl) rfl (fun b_1 => ?_)
  refine ln (n_box (C := #[.int .i64 p1.Op, .int .i64 p1.L.K, .string p1.L.S, .int .i64 p1.L.V.K, .int .i64 p1.L.V.N, .string p1.L.V.S, .int .i64 p1.R.K, .string p1.R.S, .int .i64 p1.R.V.K, .int .i64 p1.R.V.N, .string p1.R.V.S]) rfl rfl) rfl (fun b_2 => ?_)
  refine lq (q_assign rfl) rfl ?_
  refine WL.nil ?_
  refine WT.seq ?_
  refine WT.seq ?_
  refine WT.region ?_
  refine lq (q_fieldAddr Fld_206_0 rfl) rfl ?_
  refine lq (q_load1 T1_3 rfl (fun w1 hw => hw.rgO (i := 1) rfl 0 1 [.int .i64 p0.Op] rfl)) rfl ?_
  refine lq (q_fieldAddr Fld_206_0 rfl) rfl ?_
  refine lq (q_load1 T1_3 rfl (fun w1 hw => hw.rgO (i := 0) rfl 0 1 [.int .i64 p1.Op] rfl)) rfl ?_
  refine lq (q_neq rfl rfl) rfl ?_
  refine WL.nil ?_
  refine WT.cond rfl (fun c1 => ?_) (fun c1 => ?_)
  · replace h := ite_t h c1
    refine WT.seq ?_
    refine WT.region ?_
    refine lq (q_assign rfl) rfl ?_
    refine WL.nil ?_
    refine WT.ret Try.func184 (resOk.one rfl) (fun w1 hw => ?_)
    cases h
    exact post_of_St hw
  replace h := ite_f h c1
  refine WT.skip ?_
  refine WT.seq ?_
  refine WT.seq ?_
  refine WT.region ?_
  refine lq (q_fieldAddr Fld_206_1 rfl) rfl ?_
  refine lq (q_loadN Tn_83 rfl (fun w1 hw => hw.rgO (i := 1) rfl 1 5 [.int .i64 p0.L.K, .string p0.L.S, .int .i64 p0.L.V.K, .int .i64 p0.L.V.N, .string p0.L.V.S] rfl) rfl) rfl ?_
  refine lq (q_fieldAddr Fld_206_1 rfl) rfl ?_
  refine lq (q_loadN Tn_83 rfl (fun w1 hw => hw.rgO (i := 0) rfl 1 5 [.int .i64 p1.L.K, .string p1.L.S, .int .i64 p1.L.V.K, .int .i64 p1.L.V.N, .string p1.L.V.S] rfl) rfl) rfl ?_
  obtain ⟨x1, hx1, h⟩ := bind_some h
  refine lp (p_call Fun_189 rfl (fun w1 hw => m_l_eqArg_ok hw.fro N p0.L p1.L hx1)) rfl ?_
  refine lq (q_not rfl) rfl ?_
  refine WL.nil ?_
  refine WT.cond rfl (fun c2 => ?_) (fun c2 => ?_)
  · replace h := ite_t h c2
    refine WT.seq ?_
    refine WT.region ?_
    refine lq (q_assign rfl) rfl ?_
    refine WL.nil ?_
    refine WT.ret Try.func184 (resOk.one rfl) (fun w1 hw => ?_)
    cases h
    exact post_of_St hw
  replace h := ite_f h c2
  refine WT.skip ?_
  refine WT.seq ?_
  refine WT.seq ?_
  refine WT.region ?_
  refine lq (q_fieldAddr Fld_206_2 rfl) rfl ?_
  refine lq (q_loadN Tn_83 rfl (fun w1 hw => hw.rgO (i := 1) rfl 6 5 [.int .i64 p0.R.K, .string p0.R.S, .int .i64 p0.R.V.K, .int .i64 p0.R.V.N, .string p0.R.V.S] rfl) rfl) rfl ?_
  refine lq (q_fieldAddr Fld_206_2 rfl) rfl ?_
  refine lq (q_loadN Tn_83 rfl (fun w1 hw => hw.rgO (i := 0) rfl 6 5 [.int .i64 p1.R.K, .string p1.R.S, .int .i64 p1.R.V.K, .int .i64 p1.R.V.N, .string p1.R.V.S] rfl) rfl) rfl ?_
  obtain ⟨x2, hx2, h⟩ := bind_some h
  refine lp (p_call Fun_189 rfl (fun w1 hw => m_l_eqArg_ok hw.fro N p0.R p1.R hx2)) rfl ?_
  refine lq (q_not rfl) rfl ?_
  refine WL.nil ?_
  refine WT.cond rfl (fun c3 => ?_) (fun c3 => ?_)
  · replace h := ite_t h c3
    refine WT.seq ?_
    refine WT.region ?_
    refine lq (q_assign rfl) rfl ?_
    refine WL.nil ?_
    refine WT.ret Try.func184 (resOk.one rfl) (fun w1 hw => ?_)
    cases h
    exact post_of_St hw
  replace h := ite_f h c3
  refine WT.skip ?_
  refine WT.seq ?_
  refine WT.region ?_
  refine lq (q_assign rfl) rfl ?_
  refine WL.nil ?_
  refine WT.ret Try.func184 (resOk.one rfl) (fun w1 hw => ?_)
  cases h
  exact post_of_St hw
theorem m_l_eqCondS_ok {Φ : Hp} {w : World} (hΦ : In Φ w) (N : Nat) (p0 : (List TCond)) (p1 : (List TCond)) {pv0 : Value} {pG0 : List Nat} {pv1 : Value} {pG1 : List Nat} (ph0 : RSl RTCond 11 Φ pG0 pv0 p0) (ph1 : RSl RTCond 11 Φ pG1 pv1 p1) {r : Bool} (h : m_l_eqCondS N p0 p1 = some r) :
    Calls Try.prog 141 [pv0, pv1].toArray w (Post (.bool r) w) := by
  refine enter Try.func141 rfl Try.ntmps141 rfl (St.start0 hΦ) ?_
  generalize hb0 : (⟨w, [], Φ⟩ : Base) = w0
  unfold m_l_eqCondS at h
  refine WT.seq ?_
  refine WT.region ?_
  refine lq (q_assign rfl) rfl ?_
  refine WL.nil ?_
  refine WT.seq ?_
  refine WT.seq ?_
  refine WT.region ?_
  refine lq (q_move rfl) rfl ?_
  refine lq (q_lenR Sl_63 rfl rfl ph0) rfl ?_
  refine lq (q_move rfl) rfl ?_
  refine lq (q_lenR Sl_63 rfl rfl ph1) rfl ?_
  refine lq (q_neq rfl rfl) rfl ?_
  refine WL.nil ?_
  refine WT.cond rfl (fun c1 => ?_) (fun c1 => ?_)
  · replace h := ite_t h c1
    refine WT.seq ?_
    refine WT.region ?_
    refine lq (q_assign rfl) rfl ?_
    refine WL.nil ?_
    refine WT.ret Try.func141 (resOk.one rfl) (fun w1 hw => ?_)
    subst hb0
    cases h
    exact post_of_St hw
  replace h := ite_f h c1
  refine WT.skip ?_
  refine WT.seq ?_
  refine WT.seq ?_
  refine WT.region ?_
  refine lq (q_assign rfl) rfl ?_
  refine WL.nil ?_
  refine WT.block ?_
  refine WT.loop ?_
  refine WT.mono (l' := [(0, pv0), (1, pv1), (5, .int .i64 0)]) (S' := St w0 Φ [] []) ⟨rfl, rfl, rfl, trivial⟩ (fun w1 hw => (hw.sel (js := []) rfl).selO (js := []) rfl) ?_
  refine loop_ind (σ := Int) (fun s => [(0, pv0), (1, pv1), (5, .int .i64 s)]) (fun s => St w0 Φ [] []) (fun m s => m_l_eqCondS_l1 N p0 p1 m s = some r) (fun s hm => none_ne (show (none : Option (Bool)) = some r from hm)) (fun n1 ih1 s hm => ?_) N (0) h
  revert hm; revert s; intro s1 hm
  have h : m_l_eqCondS_l1 N p0 p1 (n1 + 1) s1 = some r := hm
  show WT _ _ [(0, pv0), (1, pv1), (5, .int .i64 s1)] (St w0 Φ [] [])
  unfold m_l_eqCondS_l1 at h
  refine WT.seq ?_
  refine WT.seq ?_
  refine WT.region ?_
  refine lq (q_move rfl) rfl ?_
  refine lq (q_move rfl) rfl ?_
  refine lq (q_lenR Sl_63 rfl rfl ph0) rfl ?_
  refine lq (q_lss rfl rfl) rfl ?_
  refine WL.nil ?_
  refine WT.cond rfl (fun c2 => ?_) (fun c2 => ?_)
  · replace h := ite_t h c2
    refine WT.skip ?_
    refine WT.seq ?_
    refine WT.block ?_
    refine WT.seq ?_
    refine WT.draw mixed (by kernel_rfl) (fun _ h => h.drew) ?_
    refine qq (q_move rfl) rfl ?_
    refine qq (q_move rfl) rfl ?_
    obtain ⟨x1, hx1, h⟩ := bind_some h
    obtain ⟨cs1, F1, -, g1, hb1, hs1, r1⟩ := ph0.el (idx_some hx1).2.2
    obtain ⟨rfl, -⟩ := r1
    refine qq (q_indexAddr Sl_63 rfl rfl ph0 hx1) rfl ?_
    refine qq (q_loadN Tn_206 rfl (fun w1 hw => (g1.of_eq 0 11 rfl rfl : rg _ _ _ [.int .i64 x1.Op, .int .i64 x1.L.K, .string x1.L.S, .int .i64 x1.L.V.K, .int .i64 x1.L.V.N, .string x1.L.V.S, .int .i64 x1.R.K, .string x1.R.S, .int .i64 x1.R.V.K, .int .i64 x1.R.V.N, .string x1.R.V.S]).rangeAt hw.fro) rfl) rfl ?_
    refine qq (q_move rfl) rfl ?_
    refine qq (q_move rfl) rfl ?_
    obtain ⟨x2, hx2, h⟩ := bind_some h
    obtain ⟨cs2, F2, -, g2, hb2, hs2, r2⟩ := ph1.el (idx_some hx2).2.2
    obtain ⟨rfl, -⟩ := r2
    refine qq (q_indexAddr Sl_63 rfl rfl ph1 hx2) rfl ?_
    refine qq (q_loadN Tn_206 rfl (fun w1 hw => (g2.of_eq 0 11 rfl rfl : rg _ _ _ [.int .i64 x2.Op, .int .i64 x2.L.K, .string x2.L.S, .int .i64 x2.L.V.K, .int .i64 x2.L.V.N, .string x2.L.V.S, .int .i64 x2.R.K, .string x2.R.S, .int .i64 x2.R.V.K, .int .i64 x2.R.V.N, .string x2.R.V.S]).rangeAt hw.fro) rfl) rfl ?_
    obtain ⟨x3, hx3, h⟩ := bind_some h
    refine qp (p_call Fun_184 rfl (fun w1 hw => m_l_eqCond_ok hw.fro N x1 x2 hx3)) rfl ?_
    refine qq (q_not rfl) rfl ?_
    refine WQ.nil ?_
    refine WT.cond rfl (fun c3 => ?_) (fun c3 => ?_)
    · replace h := ite_t h c3
      refine WT.seq ?_
      refine WT.region ?_
      refine lq (q_assign rfl) rfl ?_
      refine WL.nil ?_
      refine WT.ret Try.func141 (resOk.one rfl) (fun w1 hw => ?_)
      subst hb0
      cases h
      exact post_of_St hw
    replace h := ite_f h c3
    refine WT.skip ?_
    refine WT.inBlock ?_
    refine WT.region ?_
    refine lq (q_move rfl) rfl ?_
    refine lq (q_add rfl rfl) rfl ?_
    refine lq (q_assign rfl) rfl ?_
    refine WL.nil ?_
    refine WT.inLoop (WT.mono (l' := [(0, pv0), (1, pv1), (5, .int .i64 (IntKind.i64.wrap (s1 + 1)))]) (S' := St w0 Φ [] []) ⟨rfl, rfl, rfl, trivial⟩ (fun w1 hw => (hw.sel (js := []) rfl).selO (js := []) rfl) ?_)
    exact ih1 (IntKind.i64.wrap (s1 + 1)) h
  replace h := ite_f h c2
  refine WT.exit rfl ?_
  refine WT.seq ?_
  refine WT.region ?_
  refine lq (q_assign rfl) rfl ?_
  refine WL.nil ?_
  refine WT.ret Try.func141 (resOk.one rfl) (fun w1 hw => ?_)
  subst hb0
  cases h
  exact post_of_St hw
theorem m_l_eqActS_ok {Φ : Hp} {w : World} (hΦ : In Φ w) (N : Nat) (p0 : (List TAct)) (p1 : (List TAct)) {pv0 : Value} {pG0 : List Nat} {pv1 : Value} {pG1 : List Nat} (ph0 : RSl RTAct 5 Φ pG0 pv0 p0) (ph1 : RSl RTAct 5 Φ pG1 pv1 p1) {r : Bool} (h : m_l_eqActS N p0 p1 = some r) :
    Calls Try.prog 142 [pv0, pv1].toArray w (Post (.bool r) w) := by
  refine enter Try.func142 rfl Try.ntmps142 rfl (St.start0 hΦ) ?_
  generalize hb0 : (⟨w, [], Φ⟩ : Base) = w0
  unfold m_l_eqActS at h
  refine WT.seq ?_
  refine WT.region ?_
  refine lq (q_assign rfl) rfl ?_
  refine WL.nil ?_
  refine WT.seq ?_
  refine WT.seq ?_
  refine WT.region ?_
  refine lq (q_move rfl) rfl ?_
  refine lq (q_lenR Sl_64 rfl rfl ph0) rfl ?_
  refine lq (q_move rfl) rfl ?_
  refine lq (q_lenR Sl_64 rfl rfl ph1) rfl ?_
  refine lq (q_neq rfl rfl) rfl ?_
  refine WL.nil ?_
  refine WT.cond rfl (fun c1 => ?_) (fun c1 => ?_)
  · replace h := ite_t h c1
    refine WT.seq ?_
    refine WT.region ?_
    refine lq (q_assign rfl) rfl ?_
    refine WL.nil ?_
    refine WT.ret Try.func142 (resOk.one rfl) (fun w1 hw => ?_)
    subst hb0
    cases h
    exact post_of_St hw
  replace h := ite_f h c1
  refine WT.skip ?_
  refine WT.seq ?_
  refine WT.seq ?_
  refine WT.region ?_
  refine lq (q_assign rfl) rfl ?_
  refine WL.nil ?_
  refine WT.block ?_
  refine WT.loop ?_
  refine WT.mono (l' := [(0, pv0), (1, pv1), (5, .int .i64 0)]) (S' := St w0 Φ [] []) ⟨rfl, rfl, rfl, trivial⟩ (fun w1 hw => (hw.sel (js := []) rfl).selO (js := []) rfl) ?_
  refine loop_ind (σ := Int) (fun s => [(0, pv0), (1, pv1), (5, .int .i64 s)]) (fun s => St w0 Φ [] []) (fun m s => m_l_eqActS_l1 N p0 p1 m s = some r) (fun s hm => none_ne (show (none : Option (Bool)) = some r from hm)) (fun n1 ih1 s hm => ?_) N (0) h
  revert hm; revert s; intro s1 hm
  have h : m_l_eqActS_l1 N p0 p1 (n1 + 1) s1 = some r := hm
  show WT _ _ [(0, pv0), (1, pv1), (5, .int .i64 s1)] (St w0 Φ [] [])
  unfold m_l_eqActS_l1 at h
  refine WT.seq ?_
  refine WT.seq ?_
  refine WT.region ?_
  refine lq (q_move rfl) rfl ?_
  refine lq (q_move rfl) rfl ?_
  refine lq (q_lenR Sl_64 rfl rfl ph0) rfl ?_
  refine lq (q_lss rfl rfl) rfl ?_
  refine WL.nil ?_
  refine WT.cond rfl (fun c2 => ?_) (fun c2 => ?_)
  · replace h := ite_t h c2
    refine WT.skip ?_
    refine WT.seq ?_
    refine WT.block ?_
    refine WT.seq ?_
    refine WT.draw mixed (by kernel_rfl) (fun _ h => h.drew) ?_
    refine qq (q_move rfl) rfl ?_
    refine qq (q_move rfl) rfl ?_
    obtain ⟨x1, hx1, h⟩ := bind_some h
    obtain ⟨cs1, F1, -, g1, hb1, hs1, r1⟩ := ph0.el (idx_some hx1).2.2
    obtain ⟨v1, G1, rfl, rfl, h1⟩ := r1
    refine qq (q_indexAddr Sl_64 rfl rfl ph0 hx1) rfl ?_
    refine qq (q_loadN Tn_96 rfl (fun w1 hw => (g1.of_eq 0 5 rfl rfl : rg _ _ _ [.int .i64 x1.Kind, .string x1.Name, v1, .int .i64 x1.N, .string x1.Undo]).rangeAt hw.fro) rfl) rfl ?_
    refine qq (q_move rfl) rfl ?_
    refine qq (q_move rfl) rfl ?_
    obtain ⟨x2, hx2, h⟩ := bind_some h
    obtain ⟨cs2, F2, -, g2, hb2, hs2, r2⟩ := ph1.el (idx_some hx2).2.2
    obtain ⟨v2, G2, rfl, rfl, h2⟩ := r2
    refine qq (q_indexAddr Sl_64 rfl rfl ph1 hx2) rfl ?_
    refine qq (q_loadN Tn_96 rfl (fun w1 hw => (g2.of_eq 0 5 rfl rfl : rg _ _ _ [.int .i64 x2.Kind, .string x2.Name, v2, .int .i64 x2.N, .string x2.Undo]).rangeAt hw.fro) rfl) rfl ?_
    obtain ⟨x3, hx3, h⟩ := bind_some h
    refine qp (p_call Fun_54 rfl (fun w1 hw => m_l_eqAct_ok hw.fro N x1 x2 h1 h2 hx3)) rfl ?_
    refine qq (q_not rfl) rfl ?_
    refine WQ.nil ?_
    refine WT.cond rfl (fun c3 => ?_) (fun c3 => ?_)
    · replace h := ite_t h c3
      refine WT.seq ?_
      refine WT.region ?_
      refine lq (q_assign rfl) rfl ?_
      refine WL.nil ?_
      refine WT.ret Try.func142 (resOk.one rfl) (fun w1 hw => ?_)
      subst hb0
      cases h
      exact post_of_St hw
    replace h := ite_f h c3
    refine WT.skip ?_
    refine WT.inBlock ?_
    refine WT.region ?_
    refine lq (q_move rfl) rfl ?_
    refine lq (q_add rfl rfl) rfl ?_
    refine lq (q_assign rfl) rfl ?_
    refine WL.nil ?_
    refine WT.inLoop (WT.mono (l' := [(0, pv0), (1, pv1), (5, .int .i64 (IntKind.i64.wrap (s1 + 1)))]) (S' := St w0 Φ [] []) ⟨rfl, rfl, rfl, trivial⟩ (fun w1 hw => (hw.sel (js := []) rfl).selO (js := []) rfl) ?_)
    exact ih1 (IntKind.i64.wrap (s1 + 1)) h
  replace h := ite_f h c2
  refine WT.exit rfl ?_
  refine WT.seq ?_
  refine WT.region ?_
  refine lq (q_assign rfl) rfl ?_
  refine WL.nil ?_
  refine WT.ret Try.func142 (resOk.one rfl) (fun w1 hw => ?_)
  subst hb0
  cases h
  exact post_of_St hw
theorem m_l_eqRule_ok {Φ : Hp} {w : World} (hΦ : In Φ w) (N : Nat) (p0 : TRule) (p1 : TRule) {pv0_0 : Value} {pG0_0 : List Nat} {pv0_1 : Value} {pG0_1 : List Nat} {pv0_2 : Value} {pG0_2 : List Nat} {pv1_0 : Value} {pG1_0 : List Nat} {pv1_1 : Value} {pG1_1 : List Nat} {pv1_2 : Value} {pG1_2 : List Nat} (ph0_0 : RSl RTPat 3 Φ pG0_0 pv0_0 p0.Pats) (ph0_1 : RSl RTCond 11 Φ pG0_1 pv0_1 p0.Conds) (ph0_2 : RSl RTAct 5 Φ pG0_2 pv0_2 p0.Acts) (ph1_0 : RSl RTPat 3 Φ pG1_0 pv1_0 p1.Pats) (ph1_1 : RSl RTCond 11 Φ pG1_1 pv1_1 p1.Conds) (ph1_2 : RSl RTAct 5 Φ pG1_2 pv1_2 p1.Acts) {r : Bool} (h : m_l_eqRule N p0 p1 = some r) :
    Calls Try.prog 62 [.agg [.string p0.Name, .int .i64 p0.Sal, pv0_0, pv0_1, pv0_2].toArray, .agg [.string p1.Name, .int .i64 p1.Sal, pv1_0, pv1_1, pv1_2].toArray].toArray w (Post (.bool r) w) := by
  refine enter Try.func62 rfl Try.ntmps62 rfl (St.start0 hΦ) ?_
  unfold m_l_eqRule at h
  refine WT.seq ?_
  refine WT.region ?_
  refine ln (n_box (C := #[.string p0.Name, .int .i64 p0.Sal, pv0_0, pv0_1, pv0_2]) rfl rfl) rfl (fun b_1 => ?_)
  refine ln (n_box (C := #[.string p1.Name, .int .i64 p1.Sal, pv1_0, pv1_1, pv1_2]) rfl rfl) rfl (fun b_2 => ?_)
  refine lq (q_assign rfl) rfl ?_
  refine WL.nil ?_
  refine WT.seq ?_
  refine WT.seq ?_
  refine WT.region ?_
  refine lq (q_fieldAddr Fld_66_0 rfl) rfl ?_
  refine lq (q_load1 T1_9 rfl (fun w1 hw => hw.rgO (i := 1) rfl 0 1 [.string p0.Name] rfl)) rfl ?_
  refine lq (q_fieldAddr Fld_66_0 rfl) rfl ?_
  refine lq (q_load1 T1_9 rfl (fun w1 hw => hw.rgO (i := 0) rfl 0 1 [.string p1.Name] rfl)) rfl ?_
  refine lq (q_sne rfl rfl) rfl ?_
  refine WL.nil ?_
  refine WT.cond rfl (fun c1 => ?_) (fun c1 => ?_)
  · replace h := ite_t h c1
    refine WT.seq ?_
    refine WT.region ?_
    refine lq (q_assign rfl) rfl ?_
    refine WL.nil ?_
    refine WT.ret Try.func62 (resOk.one rfl) (fun w1 hw => ?_)
    cases h
    exact post_of_St hw
  replace h := ite_f h c1
  refine WT.skip ?_
  refine WT.seq ?_
  refine WT.seq ?_
  refine WT.region ?_
  refine lq (q_fieldAddr Fld_66_1 rfl) rfl ?_
  refine lq (q_load1 T1_3 rfl (fun w1 hw => hw.rgO (i := 1) rfl 1 1 [.int .i64 p0.Sal] rfl)) rfl ?_
  refine lq (q_fieldAddr Fld_66_1 rfl) rfl ?_
  refine lq (q_load1 T1_3 rfl (fun w1 hw => hw.rgO (i := 0) rfl 1 1 [.int .i64 p1.Sal] rfl)) rfl ?_
  refine lq (q_neq rfl rfl) rfl ?_
  refine WL.nil ?_
  refine WT.cond rfl (fun c2 => ?_) (fun c2 => ?_)
  · replace h := ite_t h c2
    refine WT.seq ?_
    refine WT.region ?_
    refine lq (q_assign rfl) rfl ?_
    refine WL.nil ?_
    refine WT.ret Try.func62 (resOk.one rfl) (fun w1 hw => ?_)
    cases h
    exact post_of_St hw
  replace h := ite_f h c2
  refine WT.skip ?_
  refine WT.seq ?_
  refine WT.seq ?_
  refine WT.region ?_
  refine lq (q_fieldAddr Fld_66_2 rfl) rfl ?_
  refine lq (q_load1 T1_62 rfl (fun w1 hw => hw.rgO (i := 1) rfl 2 1 [pv0_0] rfl)) rfl ?_
  refine lq (q_fieldAddr Fld_66_2 rfl) rfl ?_
  refine lq (q_load1 T1_62 rfl (fun w1 hw => hw.rgO (i := 0) rfl 2 1 [pv1_0] rfl)) rfl ?_
  obtain ⟨x1, hx1, h⟩ := bind_some h
  refine lp (p_call Fun_140 rfl (fun w1 hw => m_l_eqPatS_ok hw.fro N p0.Pats p1.Pats ph0_0 ph1_0 hx1)) rfl ?_
  refine lq (q_not rfl) rfl ?_
  refine WL.nil ?_
  refine WT.cond rfl (fun c3 => ?_) (fun c3 => ?_)
  · replace h := ite_t h c3
    refine WT.seq ?_
    refine WT.region ?_
    refine lq (q_assign rfl) rfl ?_
    refine WL.nil ?_
    refine WT.ret Try.func62 (resOk.one rfl) (fun w1 hw => ?_)
    cases h
    exact post_of_St hw
  replace h := ite_f h c3
  refine WT.skip ?_
  refine WT.seq ?_
  refine WT.seq ?_
  refine WT.region ?_
  refine lq (q_fieldAddr Fld_66_3 rfl) rfl ?_
  refine lq (q_load1 T1_63 rfl (fun w1 hw => hw.rgO (i := 1) rfl 3 1 [pv0_1] rfl)) rfl ?_
  refine lq (q_fieldAddr Fld_66_3 rfl) rfl ?_
  refine lq (q_load1 T1_63 rfl (fun w1 hw => hw.rgO (i := 0) rfl 3 1 [pv1_1] rfl)) rfl ?_
  obtain ⟨x2, hx2, h⟩ := bind_some h
  refine lp (p_call Fun_141 rfl (fun w1 hw => m_l_eqCondS_ok hw.fro N p0.Conds p1.Conds ph0_1 ph1_1 hx2)) rfl ?_
  refine lq (q_not rfl) rfl ?_
  refine WL.nil ?_
  refine WT.cond rfl (fun c4 => ?_) (fun c4 => ?_)
  · replace h := ite_t h c4
    refine WT.seq ?_
    refine WT.region ?_
    refine lq (q_assign rfl) rfl ?_
    refine WL.nil ?_
    refine WT.ret Try.func62 (resOk.one rfl) (fun w1 hw => ?_)
    cases h
    exact post_of_St hw
  replace h := ite_f h c4
  refine WT.skip ?_
  refine WT.seq ?_
  refine WT.seq ?_
  refine WT.region ?_
  refine lq (q_fieldAddr Fld_66_4 rfl) rfl ?_
  refine lq (q_load1 T1_64 rfl (fun w1 hw => hw.rgO (i := 1) rfl 4 1 [pv0_2] rfl)) rfl ?_
  refine lq (q_fieldAddr Fld_66_4 rfl) rfl ?_
  refine lq (q_load1 T1_64 rfl (fun w1 hw => hw.rgO (i := 0) rfl 4 1 [pv1_2] rfl)) rfl ?_
  obtain ⟨x3, hx3, h⟩ := bind_some h
  refine lp (p_call Fun_142 rfl (fun w1 hw => m_l_eqActS_ok hw.fro N p0.Acts p1.Acts ph0_2 ph1_2 hx3)) rfl ?_
  refine lq (q_not rfl) rfl ?_
  refine WL.nil ?_
  refine WT.cond rfl (fun c5 => ?_) (fun c5 => ?_)
  · replace h := ite_t h c5
    refine WT.seq ?_
    refine WT.region ?_
    refine lq (q_assign rfl) rfl ?_
    refine WL.nil ?_
    refine WT.ret Try.func62 (resOk.one rfl) (fun w1 hw => ?_)
    cases h
    exact post_of_St hw
  replace h := ite_f h c5
  refine WT.skip ?_
  refine WT.seq ?_
  refine WT.region ?_
  refine lq (q_assign rfl) rfl ?_
  refine WL.nil ?_
  refine WT.ret Try.func62 (resOk.one rfl) (fun w1 hw => ?_)
  cases h
  exact post_of_St hw
theorem m_l_FnExactPosCount_ok {Φ : Hp} {w : World} (hΦ : In Φ w) (N : Nat) (p0 : TRule) {pv0_0 : Value} {pG0_0 : List Nat} {pv0_1 : Value} {pG0_1 : List Nat} {pv0_2 : Value} {pG0_2 : List Nat} (ph0_0 : RSl RTPat 3 Φ pG0_0 pv0_0 p0.Pats) (ph0_1 : RSl RTCond 11 Φ pG0_1 pv0_1 p0.Conds) (ph0_2 : RSl RTAct 5 Φ pG0_2 pv0_2 p0.Acts) {r : Bool} (h : m_l_FnExactPosCount N p0 = some r) :
    Calls Try.prog 10 [.agg [.string p0.Name, .int .i64 p0.Sal, pv0_0, pv0_1, pv0_2].toArray].toArray w (Post (.bool r) w) := by
  refine enter Try.func10 rfl Try.ntmps10 rfl (St.start0 hΦ) ?_
  have pa0_0 : Old ⟨w, [], Φ⟩ pG0_0 := Old.mk hΦ ph0_0.kn (Dj.empty _)
  have pa0_1 : Old ⟨w, [], Φ⟩ pG0_1 := Old.mk hΦ ph0_1.kn (Dj.empty _)
  have pa0_2 : Old ⟨w, [], Φ⟩ pG0_2 := Old.mk hΦ ph0_2.kn (Dj.empty _)
  unfold m_l_FnExactPosCount at h
  refine WT.seq ?_
  refine WT.region ?_
  refine ln (n_box (C := #[.string p0.Name, .int .i64 p0.Sal, pv0_0, pv0_1, pv0_2]) rfl rfl) rfl (fun b_1 => ?_)
  refine lq (q_assign rfl) rfl ?_
  refine WL.nil ?_
  refine WT.seq ?_
  refine WT.region ?_
  refine lq (q_assign rfl) rfl ?_
  refine WL.nil ?_
  refine WT.seq ?_
  refine WT.region ?_
  refine lq (q_loadN Tn_110 rfl (fun w1 hw => hw.rgO (i := 0) rfl 0 5 [.string p0.Name, .int .i64 p0.Sal, pv0_0, pv0_1, pv0_2] rfl) rfl) rfl ?_
  refine lq (q_move rfl) rfl ?_
  obtain ⟨x1, hx1, h⟩ := bind_some h
  refine lp (p_call Fun_58 rfl (fun w1 hw => m_l_szRule_ok hw.fro N p0 1048576 ph0_0 ph0_1 ph0_2 hx1)) rfl ?_
  refine lq (q_assign rfl) rfl ?_
  refine WL.nil ?_
  refine WT.seq ?_
  refine WT.seq ?_
  refine WT.region ?_
  refine lq (q_move rfl) rfl ?_
  refine lq (q_lss rfl rfl) rfl ?_
  refine WL.nil ?_
  refine WT.cond rfl (fun c1 => ?_) (fun c1 => ?_)
  · replace h := ite_t h c1
    refine WT.seq ?_
    refine WT.region ?_
    refine lq (q_assign rfl) rfl ?_
    refine WL.nil ?_
    refine WT.ret Try.func10 (resOk.one rfl) (fun w1 hw => ?_)
    cases h
    exact post_of_St hw
  replace h := ite_f h c1
  refine WT.skip ?_
  refine WT.seq ?_
  refine WT.region ?_
  refine lq (q_loadN Tn_110 rfl (fun w1 hw => hw.rgO (i := 0) rfl 0 5 [.string p0.Name, .int .i64 p0.Sal, pv0_0, pv0_1, pv0_2] rfl) rfl) rfl ?_
  obtain ⟨x2, hx2, h⟩ := bind_some h
  refine lc (k_call (js := []) (R := []) Fun_60 rfl rfl (fun w1 hw ap hl => m_l_toRule_ok hw.fro N p0 ph0_0 ph0_1 ph0_2  hx2)) rfl (fun v1 Φ_1 F1 q1 => ?_)
  obtain ⟨ap1, fr1, v2, D1, v3, v4, D2, rfl, rfl, h1, h2, h3⟩ := q1
  replace ph0_0 := ph0_0.frame RTPat.lasts fr1 (ap1.o pa0_0)
  replace ph0_1 := ph0_1.frame RTCond.lasts fr1 (ap1.o pa0_1)
  replace ph0_2 := ph0_2.frame RTAct.lasts fr1 (ap1.o pa0_2)
  obtain ⟨x3, hx3, h⟩ := bind_some h
  refine lp (p_call Fun_59 rfl (fun w1 hw => m_s_PosCount_ok hw.fro N x2 (h1.rslG OTPat.gives) h2.rsl (h3.rslG OTAct.gives) hx3)) rfl ?_
  refine lq (q_assign rfl) rfl ?_
  refine WL.nil ?_
  refine WT.seq ?_
  refine WT.region ?_
  refine lq (q_loadN Tn_110 rfl (fun w1 hw => hw.rgO (i := 0) rfl 0 5 [.string p0.Name, .int .i64 p0.Sal, pv0_0, pv0_1, pv0_2] rfl) rfl) rfl ?_
  obtain ⟨x4, hx4, h⟩ := bind_some h
  refine lc (k_call (js := []) (R := [ob v2, D1, ob v3, ob v4, D2]) Fun_60 rfl rfl (fun w1 hw ap hl => m_l_toRule_ok hw.fro N p0 ph0_0 ph0_1 ph0_2  hx4)) rfl (fun v5 Φ_2 F2 q2 => ?_)
  obtain ⟨ap2, fr2, v6, D3, v7, v8, D4, rfl, rfl, h4, h5, h6⟩ := q2
  replace ph0_0 := ph0_0.frame RTPat.lasts fr2 (ap2.o pa0_0)
  replace ph0_1 := ph0_1.frame RTCond.lasts fr2 (ap2.o pa0_1)
  replace ph0_2 := ph0_2.frame RTAct.lasts fr2 (ap2.o pa0_2)
  refine ln (n_alloc (C := #[.string (⟨#[]⟩ : ByteArray), .int .i64 0, .slice none 0 0, .slice none 0 0, .slice none 0 0]) Zr_66 rfl) rfl (fun b_2 => ?_)
  refine ls (s_store (i := 0) (vs := [.string x4.Name, .int .i64 x4.Sal, v6, v7, v8]) (C' := [.string x4.Name, .int .i64 x4.Sal, v6, v7, v8]) (O' := [(b_2, .cells #[.string x4.Name, .int .i64 x4.Sal, v6, v7, v8] 66 (0, 0)), (b_1, .cells #[.string p0.Name, .int .i64 p0.Sal, pv0_0, pv0_1, pv0_2] 110 (0, 0))]) Sz_66 rfl rfl rfl rfl rfl rfl ⟨rfl, rfl, h4.one, h5.one, h6.one, trivial⟩ rfl rfl) rfl ?_
  refine WL.nil ?_
  refine WT.seq ?_
  refine WT.region ?_
  refine lq (q_loadN Tn_66 rfl (fun w1 hw => hw.rgO (i := 0) rfl 0 5 [.string x4.Name, .int .i64 x4.Sal, v6, v7, v8] rfl) rfl) rfl ?_
  obtain ⟨x5, hx5, h⟩ := bind_some h
  refine lp (p_call Fun_61 rfl (fun w1 hw => m_i_PosCount_ok hw.fro N x4 (h4.rslG OTPat.gives) h5.rsl (h6.rslG OTAct.gives) hx5)) rfl ?_
  refine lq (q_assign rfl) rfl ?_
  refine WL.nil ?_
  refine WT.seq ?_
  refine WT.seq ?_
  refine WT.region ?_
  refine lq (q_move rfl) rfl ?_
  refine lq (q_move rfl) rfl ?_
  refine lq (q_neq rfl rfl) rfl ?_
  refine WL.nil ?_
  refine WT.cond rfl (fun c2 => ?_) (fun c2 => ?_)
  · replace h := ite_t h c2
    refine WT.seq ?_
    refine WT.region ?_
    refine lq (q_assign rfl) rfl ?_
    refine WL.nil ?_
    refine WT.ret Try.func10 (resOk.one rfl) (fun w1 hw => ?_)
    cases h
    exact post_of_St hw
  replace h := ite_f h c2
  refine WT.skip ?_
  refine WT.seq ?_
  refine WT.seq ?_
  refine WT.mix (Kn Φ_2 [] [(b_2, .cells #[.string x4.Name, .int .i64 x4.Sal, v6, v7, v8] 66 (0, 0)), (b_1, .cells #[.string p0.Name, .int .i64 p0.Sal, pv0_0, pv0_1, pv0_2] 110 (0, 0))]) (fun _ => true) mixed (fun _ h => h.drew) ?_
  refine mq 0 rfl (by kernel_rfl) (fun w1 hw => Kn.of (fun k hk _ _ => by simp at hk) (AllIn.mem ⟨List.mem_of_getElem? (i := 0) rfl, List.mem_of_getElem? (i := 1) rfl, trivial⟩) hw) (q_loadN Tn_66 rfl (fun w1 hw => hw.rgO (i := 0) rfl 0 5 [.string x4.Name, .int .i64 x4.Sal, v6, v7, v8] rfl) rfl) rfl ?_
  refine mq 1 rfl (by kernel_rfl) (fun w1 hw => Kn.of (fun k hk _ _ => by simp at hk) (AllIn.mem ⟨List.mem_of_getElem? (i := 0) rfl, List.mem_of_getElem? (i := 1) rfl, trivial⟩) hw) (q_loadN Tn_110 rfl (fun w1 hw => hw.rgO (i := 1) rfl 0 5 [.string p0.Name, .int .i64 p0.Sal, pv0_0, pv0_1, pv0_2] rfl) rfl) rfl ?_
  obtain ⟨x6, hx6, h⟩ := bind_some h
  refine WM.one 2 (by kernel_rfl) (mc rfl (fun _ v Φx D w1 hq hw => Kn.of (fun k hk _ _ => by simp at hk) (AllIn.mem ⟨List.mem_of_getElem? (i := 0) rfl, List.mem_of_getElem? (i := 1) rfl, trivial⟩) hw) (k_call (js := []) (R := [ob v6, D3, ob v7, ob v8, D4, ob v2, D1, ob v3, ob v4, D2]) Fun_60 rfl rfl (fun w1 hw ap hl => m_l_toRule_ok hw.fro N p0 ph0_0 ph0_1 ph0_2  hx6)) rfl (fun v9 Φ_3 F3 q3 => ?_))
  obtain ⟨ap3, fr3, v10, D5, v11, v12, D6, rfl, rfl, h7, h8, h9⟩ := q3
  replace h4 := h4.frame OTPat.lasts fr3 (ap3.r (i := 0) rfl) (ap3.r (i := 1) rfl)
  replace h5 := h5.frame RTCond.lasts fr3 (ap3.r (i := 2) rfl) (Dj.nil _)
  replace h6 := h6.frame OTAct.lasts fr3 (ap3.r (i := 3) rfl) (ap3.r (i := 4) rfl)
  obtain ⟨x7, hx7, h⟩ := bind_some h
  refine WM.one 3 (by kernel_rfl) (mp rfl (fun _ w1 hw => Kn.of (fun k hk _ _ => by simp at hk) (AllIn.mem ⟨List.mem_of_getElem? (i := 0) rfl, List.mem_of_getElem? (i := 1) rfl, trivial⟩) hw) (p_call Fun_62 rfl (fun w1 hw => m_l_eqRule_ok hw.fro N x4 x6 (h4.rslG OTPat.gives) h5.rsl (h6.rslG OTAct.gives) (h7.rslG OTPat.gives) h8.rsl (h9.rslG OTAct.gives) hx7)) rfl ?_)
  refine mq 4 rfl (by kernel_rfl) (fun w1 hw => Kn.of (fun k hk _ _ => by simp at hk) (AllIn.mem ⟨List.mem_of_getElem? (i := 0) rfl, List.mem_of_getElem? (i := 1) rfl, trivial⟩) hw) (q_not rfl) rfl ?_
  refine WM.nil (by kernel_rfl) ?_
  refine WT.cond rfl (fun c3 => ?_) (fun c3 => ?_)
  · replace h := ite_t h c3
    refine WT.seq ?_
    refine WT.region ?_
    refine lq (q_assign rfl) rfl ?_
    refine WL.nil ?_
    refine WT.ret Try.func10 (resOk.one rfl) (fun w1 hw => ?_)
    cases h
    exact post_of_St hw
  replace h := ite_f h c3
  refine WT.skip ?_
  refine WT.seq ?_
  refine WT.region ?_
  refine lq (q_assign rfl) rfl ?_
  refine WL.nil ?_
  refine WT.ret Try.func10 (resOk.one rfl) (fun w1 hw => ?_)
  cases h
  exact post_of_St hw
theorem m_i_BindOf_ok {Φ : Hp} {w : World} (hΦ : In Φ w) (N : Nat) (p0 : (List TBind)) (p1 : ByteArray) {pv0 : Value} {pG0 : List Nat} (ph0 : RSl RTBind 4 Φ pG0 pv0 p0) {r : TVal × Bool} (h : m_i_BindOf N p0 p1 = some r) :
    Calls Try.prog 90 [pv0, .string p1].toArray w (Post (.tuple #[.agg [.int .i64 r.1.K, .int .i64 r.1.N, .string r.1.S].toArray, .bool r.2]) w) := by
  refine enter Try.func90 rfl Try.ntmps90 rfl (St.start0 hΦ) ?_
  generalize hb0 : (⟨w, [], Φ⟩ : Base) = w0
  unfold m_i_BindOf at h
  refine WT.seq ?_
  refine WT.region ?_
  refine ln (n_alloc (C := #[.int .i64 0, .int .i64 0, .string (⟨#[]⟩ : ByteArray)]) Zr_79 rfl) rfl (fun b_1 => ?_)
  refine lq (q_assign rfl) rfl ?_
  refine WL.nil ?_
  refine WT.seq ?_
  refine WT.seq ?_
  refine WT.region ?_
  refine lq (q_move rfl) rfl ?_
  refine lq (q_lenR Sl_28 rfl rfl ph0) rfl ?_
  refine lq (q_move rfl) rfl ?_
  refine WL.nil ?_
  refine WT.block ?_
  refine WT.loop ?_
  refine WT.mono (l' := [(1, .string p1), (4, .pointer (some ⟨b_1, 0, none⟩)), (8, pv0), (9, .int .i64 (p0.length : Int)), (10, .int .i64 0)]) (S' := St w0 Φ [(b_1, .cells #[.int .i64 0, .int .i64 0, .string (⟨#[]⟩ : ByteArray)] 79 (0, 0))] []) ⟨rfl, rfl, rfl, rfl, rfl, trivial⟩ (fun w1 hw => (hw.sel (js := []) rfl).selO (js := [0]) rfl) ?_
  refine loop_ind (σ := Int) (fun s => [(1, .string p1), (4, .pointer (some ⟨b_1, 0, none⟩)), (8, pv0), (9, .int .i64 (p0.length : Int)), (10, .int .i64 s)]) (fun s => St w0 Φ [(b_1, .cells #[.int .i64 0, .int .i64 0, .string (⟨#[]⟩ : ByteArray)] 79 (0, 0))] []) (fun m s => m_i_BindOf_l1 N p0 p1 m s = some r) (fun s hm => none_ne (show (none : Option (TVal × Bool)) = some r from hm)) (fun n1 ih1 s hm => ?_) N (0) h
  revert hm; revert s; intro s1 hm
  have h : m_i_BindOf_l1 N p0 p1 (n1 + 1) s1 = some r := hm
  show WT _ _ [(1, .string p1), (4, .pointer (some ⟨b_1, 0, none⟩)), (8, pv0), (9, .int .i64 (p0.length : Int)), (10, .int .i64 s1)] (St w0 Φ [(b_1, .cells #[.int .i64 0, .int .i64 0, .string (⟨#[]⟩ : ByteArray)] 79 (0, 0))] [])
  unfold m_i_BindOf_l1 at h
  refine WT.seq ?_
  refine WT.region ?_
  refine lq (q_lss rfl rfl) rfl ?_
  refine WL.nil ?_
  refine WT.seq ?_
  refine WT.cond rfl (fun c1 => ?_) (fun c1 => ?_)
  · replace h := ite_t h c1
    refine WT.skip ?_
    refine WT.seq ?_
    refine WT.block ?_
    refine WT.seq ?_
    refine WT.region ?_
    obtain ⟨x1, hx1, h⟩ := bind_some h
    obtain ⟨cs1, F1, -, g1, hb1, hs1, r1⟩ := ph0.el (idx_some hx1).2.2
    obtain ⟨rfl, -⟩ := r1
    refine lq (q_indexAddr Sl_28 rfl rfl ph0 hx1) rfl ?_
    refine lq (q_loadN Tn_142 rfl (fun w1 hw => (g1.of_eq 0 4 rfl rfl : rg _ _ _ [.string x1.Name, .int .i64 x1.V.K, .int .i64 x1.V.N, .string x1.V.S]).rangeAt hw.fro) rfl) rfl ?_
    refine ln (n_alloc (C := #[.string (⟨#[]⟩ : ByteArray), .int .i64 0, .int .i64 0, .string (⟨#[]⟩ : ByteArray)]) Zr_142 rfl) rfl (fun b_2 => ?_)
    refine ls (s_store (i := 0) (vs := [.string x1.Name, .int .i64 x1.V.K, .int .i64 x1.V.N, .string x1.V.S]) (C' := [.string x1.Name, .int .i64 x1.V.K, .int .i64 x1.V.N, .string x1.V.S]) (O' := [(b_2, .cells #[.string x1.Name, .int .i64 x1.V.K, .int .i64 x1.V.N, .string x1.V.S] 142 (0, 0)), (b_1, .cells #[.int .i64 0, .int .i64 0, .string (⟨#[]⟩ : ByteArray)] 79 (0, 0))]) Sz_142 rfl rfl rfl rfl rfl rfl ⟨rfl, rfl, rfl, rfl, trivial⟩ rfl rfl) rfl ?_
    refine WL.nil ?_
    refine WT.seq ?_
    refine WT.region ?_
    refine lq (q_fieldAddr Fld_142_0 rfl) rfl ?_
    refine lq (q_load1 T1_9 rfl (fun w1 hw => hw.rgO (i := 0) rfl 0 1 [.string x1.Name] rfl)) rfl ?_
    refine lq (q_move rfl) rfl ?_
    refine lq (q_seq rfl rfl) rfl ?_
    refine WL.nil ?_
    refine WT.cond rfl (fun c2 => ?_) (fun c2 => ?_)
    · replace h := ite_t h c2
      refine WT.seq ?_
      refine WT.region ?_
      refine lq (q_fieldAddr Fld_142_1 rfl) rfl ?_
      refine lq (q_loadN Tn_79 rfl (fun w1 hw => hw.rgO (i := 0) rfl 1 3 [.int .i64 x1.V.K, .int .i64 x1.V.N, .string x1.V.S] rfl) rfl) rfl ?_
      refine ls (s_store (i := 1) (vs := [.int .i64 x1.V.K, .int .i64 x1.V.N, .string x1.V.S]) (C' := [.int .i64 x1.V.K, .int .i64 x1.V.N, .string x1.V.S]) (O' := [(b_2, .cells #[.string x1.Name, .int .i64 x1.V.K, .int .i64 x1.V.N, .string x1.V.S] 142 (0, 0)), (b_1, .cells #[.int .i64 x1.V.K, .int .i64 x1.V.N, .string x1.V.S] 79 (0, 0))]) Sz_79 rfl rfl rfl rfl rfl rfl ⟨rfl, rfl, rfl, trivial⟩ rfl rfl) rfl ?_
      refine lq (q_assign rfl) rfl ?_
      refine WL.nil ?_
      refine WT.ret Try.func90 (resOk.two (rv_cell Tn_79 rfl (fun w1 hw => hw.rgO (i := 1) rfl 0 3 [.int .i64 x1.V.K, .int .i64 x1.V.N, .string x1.V.S] rfl) rfl) rfl) (fun w1 hw => ?_)
      subst hb0
      cases h
      exact post_of_St hw
    replace h := ite_f h c2
    refine WT.skip ?_
    refine WT.inBlock ?_
    refine WT.region ?_
    refine lq (q_add rfl rfl) rfl ?_
    refine lq (q_move rfl) rfl ?_
    refine WL.nil ?_
    refine WT.inLoop (WT.mono (l' := [(1, .string p1), (4, .pointer (some ⟨b_1, 0, none⟩)), (8, pv0), (9, .int .i64 (p0.length : Int)), (10, .int .i64 (IntKind.i64.wrap (s1 + 1)))]) (S' := St w0 Φ [(b_1, .cells #[.int .i64 0, .int .i64 0, .string (⟨#[]⟩ : ByteArray)] 79 (0, 0))] []) ⟨rfl, rfl, rfl, rfl, rfl, trivial⟩ (fun w1 hw => (hw.sel (js := []) rfl).selO (js := [1]) rfl) ?_)
    exact ih1 (IntKind.i64.wrap (s1 + 1)) h
  replace h := ite_f h c1
  refine WT.exit rfl ?_
  refine WT.seq ?_
  refine WT.region ?_
  refine lq (q_build (vs := []) (C := #[.int .i64 0, .int .i64 0, .string (⟨#[]⟩ : ByteArray)]) Pl_79 Zr_79 rfl (fill_nil)) rfl ?_
  refine ls (s_store (i := 0) (vs := [.int .i64 0, .int .i64 0, .string (⟨#[]⟩ : ByteArray)]) (C' := [.int .i64 0, .int .i64 0, .string (⟨#[]⟩ : ByteArray)]) (O' := [(b_1, .cells #[.int .i64 0, .int .i64 0, .string (⟨#[]⟩ : ByteArray)] 79 (0, 0))]) Sz_79 rfl rfl rfl rfl rfl rfl ⟨rfl, rfl, rfl, trivial⟩ rfl rfl) rfl ?_
  refine lq (q_assign rfl) rfl ?_
  refine WL.nil ?_
  refine WT.ret Try.func90 (resOk.two (rv_cell Tn_79 rfl (fun w1 hw => hw.rgO (i := 0) rfl 0 3 [.int .i64 0, .int .i64 0, .string (⟨#[]⟩ : ByteArray)] rfl) rfl) rfl) (fun w1 hw => ?_)
  subst hb0
  cases h
  exact post_of_St hw
theorem m_i_ArgVal_ok {Φ : Hp} {w : World} (hΦ : In Φ w) (N : Nat) (p0 : TArg) (p1 : (List TBind)) {pv1 : Value} {pG1 : List Nat} (ph1 : RSl RTBind 4 Φ pG1 pv1 p1) {r : TVal × Bool} (h : m_i_ArgVal N p0 p1 = some r) :
    Calls Try.prog 114 [.agg [.int .i64 p0.K, .string p0.S, .int .i64 p0.V.K, .int .i64 p0.V.N, .string p0.V.S].toArray, pv1].toArray w (Post (.tuple #[.agg [.int .i64 r.1.K, .int .i64 r.1.N, .string r.1.S].toArray, .bool r.2]) w) := by
  refine enter Try.func114 rfl Try.ntmps114 rfl (St.start0 hΦ) ?_
  unfold m_i_ArgVal at h
  refine WT.seq ?_
  refine WT.region ?_
  refine ln (n_box (C := #[.int .i64 p0.K, .string p0.S, .int .i64 p0.V.K, .int .i64 p0.V.N, .string p0.V.S]) rfl rfl) rfl (fun b_1 => ?_)
  refine ln (n_alloc (C := #[.int .i64 0, .int .i64 0, .string (⟨#[]⟩ : ByteArray)]) Zr_79 rfl) rfl (fun b_2 => ?_)
  refine lq (q_assign rfl) rfl ?_
  refine WL.nil ?_
  refine WT.seq ?_
  refine WT.seq ?_
  refine WT.region ?_
  refine lq (q_fieldAddr Fld_83_0 rfl) rfl ?_
  refine lq (q_load1 T1_3 rfl (fun w1 hw => hw.rgO (i := 1) rfl 0 1 [.int .i64 p0.K] rfl)) rfl ?_
  refine WL.nil ?_
  refine WT.block ?_
  refine WT.seq ?_
  refine WT.region ?_
  refine lq (q_eql rfl rfl) rfl ?_
  refine lq (q_assign rfl) rfl ?_
  refine WL.nil ?_
  refine WT.cond rfl (fun c1 => ?_) (fun c1 => ?_)
  · replace h := ite_t h c1
    refine WT.seq ?_
    refine WT.region ?_
    refine lq (q_fieldAddr Fld_83_2 rfl) rfl ?_
    refine lq (q_loadN Tn_79 rfl (fun w1 hw => hw.rgO (i := 1) rfl 2 3 [.int .i64 p0.V.K, .int .i64 p0.V.N, .string p0.V.S] rfl) rfl) rfl ?_
    refine ls (s_store (i := 0) (vs := [.int .i64 p0.V.K, .int .i64 p0.V.N, .string p0.V.S]) (C' := [.int .i64 p0.V.K, .int .i64 p0.V.N, .string p0.V.S]) (O' := [(b_2, .cells #[.int .i64 p0.V.K, .int .i64 p0.V.N, .string p0.V.S] 79 (0, 0)), (b_1, .cells #[.int .i64 p0.K, .string p0.S, .int .i64 p0.V.K, .int .i64 p0.V.N, .string p0.V.S] 83 (0, 0))]) Sz_79 rfl rfl rfl rfl rfl rfl ⟨rfl, rfl, rfl, trivial⟩ rfl rfl) rfl ?_
    refine lq (q_assign rfl) rfl ?_
    refine WL.nil ?_
    refine WT.ret Try.func114 (resOk.two (rv_cell Tn_79 rfl (fun w1 hw => hw.rgO (i := 0) rfl 0 3 [.int .i64 p0.V.K, .int .i64 p0.V.N, .string p0.V.S] rfl) rfl) rfl) (fun w1 hw => ?_)
    cases h
    exact post_of_St hw
  replace h := ite_f h c1
  refine WT.seq ?_
  refine WT.region ?_
  refine lq (q_eql rfl rfl) rfl ?_
  refine lq (q_assign rfl) rfl ?_
  refine WL.nil ?_
  refine WT.cond rfl (fun c2 => ?_) (fun c2 => ?_)
  · replace h := ite_t h c2
    refine WT.seq ?_
    refine WT.region ?_
    refine lq (q_move rfl) rfl ?_
    refine lq (q_fieldAddr Fld_83_1 rfl) rfl ?_
    refine lq (q_load1 T1_9 rfl (fun w1 hw => hw.rgO (i := 1) rfl 1 1 [.string p0.S] rfl)) rfl ?_
    obtain ⟨x1, hx1, h⟩ := bind_some h
    refine lp (p_call Fun_90 rfl (fun w1 hw => m_i_BindOf_ok hw.fro N p1 p0.S ph1 hx1)) rfl ?_
    refine lq (q_extract rfl rfl) rfl ?_
    refine lq (q_extract rfl rfl) rfl ?_
    refine ls (s_store (i := 0) (vs := [.int .i64 x1.1.K, .int .i64 x1.1.N, .string x1.1.S]) (C' := [.int .i64 x1.1.K, .int .i64 x1.1.N, .string x1.1.S]) (O' := [(b_2, .cells #[.int .i64 x1.1.K, .int .i64 x1.1.N, .string x1.1.S] 79 (0, 0)), (b_1, .cells #[.int .i64 p0.K, .string p0.S, .int .i64 p0.V.K, .int .i64 p0.V.N, .string p0.V.S] 83 (0, 0))]) Sz_79 rfl rfl rfl rfl rfl rfl ⟨rfl, rfl, rfl, trivial⟩ rfl rfl) rfl ?_
    refine lq (q_assign rfl) rfl ?_
    refine WL.nil ?_
    refine WT.ret Try.func114 (resOk.two (rv_cell Tn_79 rfl (fun w1 hw => hw.rgO (i := 0) rfl 0 3 [.int .i64 x1.1.K, .int .i64 x1.1.N, .string x1.1.S] rfl) rfl) rfl) (fun w1 hw => ?_)
    cases h
    exact post_of_St hw
  replace h := ite_f h c2
  refine WT.skip ?_
  refine WT.inBlock ?_
  refine WT.seq ?_
  refine WT.region ?_
  refine lq (q_build (vs := []) (C := #[.int .i64 0, .int .i64 0, .string (⟨#[]⟩ : ByteArray)]) Pl_79 Zr_79 rfl (fill_nil)) rfl ?_
  refine ls (s_store (i := 0) (vs := [.int .i64 0, .int .i64 0, .string (⟨#[]⟩ : ByteArray)]) (C' := [.int .i64 0, .int .i64 0, .string (⟨#[]⟩ : ByteArray)]) (O' := [(b_2, .cells #[.int .i64 0, .int .i64 0, .string (⟨#[]⟩ : ByteArray)] 79 (0, 0)), (b_1, .cells #[.int .i64 p0.K, .string p0.S, .int .i64 p0.V.K, .int .i64 p0.V.N, .string p0.V.S] 83 (0, 0))]) Sz_79 rfl rfl rfl rfl rfl rfl ⟨rfl, rfl, rfl, trivial⟩ rfl rfl) rfl ?_
  refine lq (q_assign rfl) rfl ?_
  refine WL.nil ?_
  refine WT.ret Try.func114 (resOk.two (rv_cell Tn_79 rfl (fun w1 hw => hw.rgO (i := 0) rfl 0 3 [.int .i64 0, .int .i64 0, .string (⟨#[]⟩ : ByteArray)] rfl) rfl) rfl) (fun w1 hw => ?_)
  cases h
  exact post_of_St hw
theorem m_i_areInts_ok {Φ : Hp} {w : World} (hΦ : In Φ w) (N : Nat) (p0 : TVal) (p1 : TVal)   {r : Bool} (h : m_i_areInts N p0 p1 = some r) :
    Calls Try.prog 165 [.agg [.int .i64 p0.K, .int .i64 p0.N, .string p0.S].toArray, .agg [.int .i64 p1.K, .int .i64 p1.N, .string p1.S].toArray].toArray w (Post (.bool r) w) := by
  refine enter Try.func165 rfl Try.ntmps165 rfl (St.start0 hΦ) ?_
  unfold m_i_areInts at h
  refine WT.seq ?_
  refine WT.region ?_
  refine ln (n_box (C := #[.int .i64 p0.K, .int .i64 p0.N, .string p0.S]) rfl rfl) rfl (fun b_1 => ?_)
  refine ln (n_box (C := #[.int .i64 p1.K, .int .i64 p1.N, .string p1.S]) rfl rfl) rfl (fun b_2 => ?_)
  refine lq (q_assign rfl) rfl ?_
  refine WL.nil ?_
  refine WT.seq ?_
  refine WT.region ?_
  refine lq (q_fieldAddr Fld_79_0 rfl) rfl ?_
  refine lq (q_load1 T1_3 rfl (fun w1 hw => hw.rgO (i := 1) rfl 0 1 [.int .i64 p0.K] rfl)) rfl ?_
  refine lq (q_eql rfl rfl) rfl ?_
  refine lq (q_move rfl) rfl ?_
  obtain ⟨b1, hb_1, h⟩ := bind_some h
  refine WL.cutN 4 [(12, .bool b1), (2, .pointer (some ⟨b_1, 0, none⟩)), (3, .pointer (some ⟨b_2, 0, none⟩)), (4, .bool false)] ?_ (fun K => ?_)
  rotate_left
  · refine WL.split (d := 8) rfl (fun c1 => ?_) (fun c1 => ?_)
    · replace hb_1 := ite_t hb_1 c1
      refine WL.yes rfl rfl ?_
      refine lq (q_fieldAddr Fld_79_0 rfl) rfl ?_
      refine WL.yes rfl rfl ?_
      refine lq (q_load1 T1_3 rfl (fun w1 hw => hw.rgO (i := 0) rfl 0 1 [.int .i64 p1.K] rfl)) rfl ?_
      refine WL.yes rfl rfl ?_
      refine lq (q_eql rfl rfl) rfl ?_
      refine WL.q (q_pick1 rfl rfl) rfl rfl rfl ?_
      cases hb_1
      exact WL.keep (by exact ⟨rfl, rfl, rfl, rfl, trivial⟩) K
    · replace hb_1 := ite_f hb_1 c1
      refine WL.no rfl rfl rfl rfl ?_
      refine WL.no rfl rfl rfl rfl ?_
      refine WL.no rfl rfl rfl rfl ?_
      refine WL.q (q_pick0 rfl rfl) rfl rfl rfl ?_
      cases hb_1
      exact WL.keep (by exact ⟨rfl, rfl, rfl, rfl, trivial⟩) K
  refine lq (q_move rfl) rfl ?_
  obtain ⟨b2, hb_2, h⟩ := bind_some h
  refine WL.cutN 3 [(16, .bool b2), (3, .pointer (some ⟨b_2, 0, none⟩)), (4, .bool false)] ?_ (fun K => ?_)
  rotate_left
  · refine WL.split (d := 13) rfl (fun c2 => ?_) (fun c2 => ?_)
    · replace hb_2 := ite_t hb_2 c2
      refine WL.yes rfl rfl ?_
      refine lq (q_loadN Tn_79 rfl (fun w1 hw => hw.rgO (i := 1) rfl 0 3 [.int .i64 p0.K, .int .i64 p0.N, .string p0.S] rfl) rfl) rfl ?_
      refine WL.yes rfl rfl ?_
      obtain ⟨x1, hx1, hb_2⟩ := bind_some hb_2
      refine lp (p_call Fun_45 rfl (fun w1 hw => m_i_ValOk_ok hw.fro N p0 hx1)) rfl ?_
      refine WL.q (q_pick1 rfl rfl) rfl rfl rfl ?_
      cases hb_2
      exact WL.keep (by exact ⟨rfl, rfl, rfl, trivial⟩) K
    · replace hb_2 := ite_f hb_2 c2
      refine WL.no rfl rfl rfl rfl ?_
      refine WL.no rfl rfl rfl rfl ?_
      refine WL.q (q_pick0 rfl rfl) rfl rfl rfl ?_
      cases hb_2
      exact WL.keep (by exact ⟨rfl, rfl, rfl, trivial⟩) K
  refine lq (q_move rfl) rfl ?_
  obtain ⟨b3, hb_3, h⟩ := bind_some h
  refine WL.cutN 3 [(20, .bool b3), (4, .bool false)] ?_ (fun K => ?_)
  rotate_left
  · refine WL.split (d := 17) rfl (fun c3 => ?_) (fun c3 => ?_)
    · replace hb_3 := ite_t hb_3 c3
      refine WL.yes rfl rfl ?_
      refine lq (q_loadN Tn_79 rfl (fun w1 hw => hw.rgO (i := 0) rfl 0 3 [.int .i64 p1.K, .int .i64 p1.N, .string p1.S] rfl) rfl) rfl ?_
      refine WL.yes rfl rfl ?_
      obtain ⟨x2, hx2, hb_3⟩ := bind_some hb_3
      refine lp (p_call Fun_45 rfl (fun w1 hw => m_i_ValOk_ok hw.fro N p1 hx2)) rfl ?_
      refine WL.q (q_pick1 rfl rfl) rfl rfl rfl ?_
      cases hb_3
      exact WL.keep (by exact ⟨rfl, rfl, trivial⟩) K
    · replace hb_3 := ite_f hb_3 c3
      refine WL.no rfl rfl rfl rfl ?_
      refine WL.no rfl rfl rfl rfl ?_
      refine WL.q (q_pick0 rfl rfl) rfl rfl rfl ?_
      cases hb_3
      exact WL.keep (by exact ⟨rfl, rfl, trivial⟩) K
  refine lq (q_assign rfl) rfl ?_
  refine WL.nil ?_
  refine WT.ret Try.func165 (resOk.one rfl) (fun w1 hw => ?_)
  cases h
  exact post_of_St hw
theorem m_i_intVal_ok {Φ : Hp} {w : World} (hΦ : In Φ w) (N : Nat) (p0 : Int)   {r : TVal × Bool} (h : m_i_intVal N p0 = some r) :
    Calls Try.prog 166 [.int .i64 p0].toArray w (Post (.tuple #[.agg [.int .i64 r.1.K, .int .i64 r.1.N, .string r.1.S].toArray, .bool r.2]) w) := by
  refine enter Try.func166 rfl Try.ntmps166 rfl (St.start0 hΦ) ?_
  unfold m_i_intVal at h
  refine WT.seq ?_
  refine WT.region ?_
  refine ln (n_alloc (C := #[.int .i64 0, .int .i64 0, .string (⟨#[]⟩ : ByteArray)]) Zr_79 rfl) rfl (fun b_1 => ?_)
  refine lq (q_assign rfl) rfl ?_
  refine WL.nil ?_
  refine WT.seq ?_
  refine WT.region ?_
  refine lq (q_move rfl) rfl ?_
  refine lq (q_build (vs := [(0, .int .i64 1), (1, .int .i64 p0)]) (C := #[.int .i64 1, .int .i64 p0, .string (⟨#[]⟩ : ByteArray)]) Pl_79 Zr_79 rfl (fill_cons (cells := [.int .i64 0, .int .i64 0, .string ⟨#[]⟩]) (c := [.int .i64 1]) (C' := [.int .i64 1, .int .i64 0, .string ⟨#[]⟩]) rfl rfl rfl rfl rfl (fill_cons (cells := [.int .i64 1, .int .i64 0, .string ⟨#[]⟩]) (c := [.int .i64 p0]) (C' := [.int .i64 1, .int .i64 p0, .string ⟨#[]⟩]) rfl rfl rfl rfl rfl (fill_nil)))) rfl ?_
  refine ln (n_alloc (C := #[.int .i64 0, .int .i64 0, .string (⟨#[]⟩ : ByteArray)]) Zr_79 rfl) rfl (fun b_2 => ?_)
  refine ls (s_store (i := 0) (vs := [.int .i64 1, .int .i64 p0, .string (⟨#[]⟩ : ByteArray)]) (C' := [.int .i64 1, .int .i64 p0, .string (⟨#[]⟩ : ByteArray)]) (O' := [(b_2, .cells #[.int .i64 1, .int .i64 p0, .string (⟨#[]⟩ : ByteArray)] 79 (0, 0)), (b_1, .cells #[.int .i64 0, .int .i64 0, .string (⟨#[]⟩ : ByteArray)] 79 (0, 0))]) Sz_79 rfl rfl rfl rfl rfl rfl ⟨rfl, rfl, rfl, trivial⟩ rfl rfl) rfl ?_
  refine WL.nil ?_
  refine WT.seq ?_
  refine WT.seq ?_
  refine WT.region ?_
  refine lq (q_loadN Tn_79 rfl (fun w1 hw => hw.rgO (i := 0) rfl 0 3 [.int .i64 1, .int .i64 p0, .string (⟨#[]⟩ : ByteArray)] rfl) rfl) rfl ?_
  obtain ⟨x1, hx1, h⟩ := bind_some h
  refine lp (p_call Fun_45 rfl (fun w1 hw => m_i_ValOk_ok hw.fro N (⟨1, p0, (⟨#[]⟩ : ByteArray)⟩ : TVal) hx1)) rfl ?_
  refine lq (q_not rfl) rfl ?_
  refine WL.nil ?_
  refine WT.cond rfl (fun c1 => ?_) (fun c1 => ?_)
  · replace h := ite_t h c1
    refine WT.seq ?_
    refine WT.region ?_
    refine lq (q_build (vs := []) (C := #[.int .i64 0, .int .i64 0, .string (⟨#[]⟩ : ByteArray)]) Pl_79 Zr_79 rfl (fill_nil)) rfl ?_
    refine ls (s_store (i := 1) (vs := [.int .i64 0, .int .i64 0, .string (⟨#[]⟩ : ByteArray)]) (C' := [.int .i64 0, .int .i64 0, .string (⟨#[]⟩ : ByteArray)]) (O' := [(b_2, .cells #[.int .i64 1, .int .i64 p0, .string (⟨#[]⟩ : ByteArray)] 79 (0, 0)), (b_1, .cells #[.int .i64 0, .int .i64 0, .string (⟨#[]⟩ : ByteArray)] 79 (0, 0))]) Sz_79 rfl rfl rfl rfl rfl rfl ⟨rfl, rfl, rfl, trivial⟩ rfl rfl) rfl ?_
    refine lq (q_assign rfl) rfl ?_
    refine WL.nil ?_
    refine WT.ret Try.func166 (resOk.two (rv_cell Tn_79 rfl (fun w1 hw => hw.rgO (i := 1) rfl 0 3 [.int .i64 0, .int .i64 0, .string (⟨#[]⟩ : ByteArray)] rfl) rfl) rfl) (fun w1 hw => ?_)
    cases h
    exact post_of_St hw
  replace h := ite_f h c1
  refine WT.skip ?_
  refine WT.seq ?_
  refine WT.region ?_
  refine lq (q_loadN Tn_79 rfl (fun w1 hw => hw.rgO (i := 0) rfl 0 3 [.int .i64 1, .int .i64 p0, .string (⟨#[]⟩ : ByteArray)] rfl) rfl) rfl ?_
  refine ls (s_store (i := 1) (vs := [.int .i64 1, .int .i64 p0, .string (⟨#[]⟩ : ByteArray)]) (C' := [.int .i64 1, .int .i64 p0, .string (⟨#[]⟩ : ByteArray)]) (O' := [(b_2, .cells #[.int .i64 1, .int .i64 p0, .string (⟨#[]⟩ : ByteArray)] 79 (0, 0)), (b_1, .cells #[.int .i64 1, .int .i64 p0, .string (⟨#[]⟩ : ByteArray)] 79 (0, 0))]) Sz_79 rfl rfl rfl rfl rfl rfl ⟨rfl, rfl, rfl, trivial⟩ rfl rfl) rfl ?_
  refine lq (q_assign rfl) rfl ?_
  refine WL.nil ?_
  refine WT.ret Try.func166 (resOk.two (rv_cell Tn_79 rfl (fun w1 hw => hw.rgO (i := 1) rfl 0 3 [.int .i64 1, .int .i64 p0, .string (⟨#[]⟩ : ByteArray)] rfl) rfl) rfl) (fun w1 hw => ?_)
  cases h
  exact post_of_St hw
theorem m_i_AddVals_ok {Φ : Hp} {w : World} (hΦ : In Φ w) (N : Nat) (p0 : TVal) (p1 : TVal)   {r : TVal × Bool} (h : m_i_AddVals N p0 p1 = some r) :
    Calls Try.prog 115 [.agg [.int .i64 p0.K, .int .i64 p0.N, .string p0.S].toArray, .agg [.int .i64 p1.K, .int .i64 p1.N, .string p1.S].toArray].toArray w (Post (.tuple #[.agg [.int .i64 r.1.K, .int .i64 r.1.N, .string r.1.S].toArray, .bool r.2]) w) := by
  refine enter Try.func115 rfl Try.ntmps115 rfl (St.start0 hΦ) ?_
  unfold m_i_AddVals at h
  refine WT.seq ?_
  refine WT.region ?_
  refine ln (n_box (C := #[.int .i64 p0.K, .int .i64 p0.N, .string p0.S]) rfl rfl) rfl (fun b_1 => ?_)
  refine ln (n_box (C := #[.int .i64 p1.K, .int .i64 p1.N, .string p1.S]) rfl rfl) rfl (fun b_2 => ?_)
  refine ln (n_alloc (C := #[.int .i64 0, .int .i64 0, .string (⟨#[]⟩ : ByteArray)]) Zr_79 rfl) rfl (fun b_3 => ?_)
  refine lq (q_assign rfl) rfl ?_
  refine WL.nil ?_
  refine WT.seq ?_
  refine WT.seq ?_
  refine WT.region ?_
  refine lq (q_loadN Tn_79 rfl (fun w1 hw => hw.rgO (i := 2) rfl 0 3 [.int .i64 p0.K, .int .i64 p0.N, .string p0.S] rfl) rfl) rfl ?_
  refine lq (q_loadN Tn_79 rfl (fun w1 hw => hw.rgO (i := 1) rfl 0 3 [.int .i64 p1.K, .int .i64 p1.N, .string p1.S] rfl) rfl) rfl ?_
  obtain ⟨x1, hx1, h⟩ := bind_some h
  refine lp (p_call Fun_165 rfl (fun w1 hw => m_i_areInts_ok hw.fro N p0 p1 hx1)) rfl ?_
  refine lq (q_not rfl) rfl ?_
  refine WL.nil ?_
  refine WT.cond rfl (fun c1 => ?_) (fun c1 => ?_)
  · replace h := ite_t h c1
    refine WT.seq ?_
    refine WT.region ?_
    refine lq (q_build (vs := []) (C := #[.int .i64 0, .int .i64 0, .string (⟨#[]⟩ : ByteArray)]) Pl_79 Zr_79 rfl (fill_nil)) rfl ?_
    refine ls (s_store (i := 0) (vs := [.int .i64 0, .int .i64 0, .string (⟨#[]⟩ : ByteArray)]) (C' := [.int .i64 0, .int .i64 0, .string (⟨#[]⟩ : ByteArray)]) (O' := [(b_3, .cells #[.int .i64 0, .int .i64 0, .string (⟨#[]⟩ : ByteArray)] 79 (0, 0)), (b_2, .cells #[.int .i64 p1.K, .int .i64 p1.N, .string p1.S] 79 (0, 0)), (b_1, .cells #[.int .i64 p0.K, .int .i64 p0.N, .string p0.S] 79 (0, 0))]) Sz_79 rfl rfl rfl rfl rfl rfl ⟨rfl, rfl, rfl, trivial⟩ rfl rfl) rfl ?_
    refine lq (q_assign rfl) rfl ?_
    refine WL.nil ?_
    refine WT.ret Try.func115 (resOk.two (rv_cell Tn_79 rfl (fun w1 hw => hw.rgO (i := 0) rfl 0 3 [.int .i64 0, .int .i64 0, .string (⟨#[]⟩ : ByteArray)] rfl) rfl) rfl) (fun w1 hw => ?_)
    cases h
    exact post_of_St hw
  replace h := ite_f h c1
  refine WT.skip ?_
  refine WT.seq ?_
  refine WT.region ?_
  refine lq (q_fieldAddr Fld_79_1 rfl) rfl ?_
  refine lq (q_load1 T1_3 rfl (fun w1 hw => hw.rgO (i := 2) rfl 1 1 [.int .i64 p0.N] rfl)) rfl ?_
  refine lq (q_fieldAddr Fld_79_1 rfl) rfl ?_
  refine lq (q_load1 T1_3 rfl (fun w1 hw => hw.rgO (i := 1) rfl 1 1 [.int .i64 p1.N] rfl)) rfl ?_
  refine lq (q_add rfl rfl) rfl ?_
  obtain ⟨x2, hx2, h⟩ := bind_some h
  refine lp (p_call Fun_166 rfl (fun w1 hw => m_i_intVal_ok hw.fro N (IntKind.i64.wrap (p0.N + p1.N)) hx2)) rfl ?_
  refine lq (q_extract rfl rfl) rfl ?_
  refine lq (q_extract rfl rfl) rfl ?_
  refine ls (s_store (i := 0) (vs := [.int .i64 x2.1.K, .int .i64 x2.1.N, .string x2.1.S]) (C' := [.int .i64 x2.1.K, .int .i64 x2.1.N, .string x2.1.S]) (O' := [(b_3, .cells #[.int .i64 x2.1.K, .int .i64 x2.1.N, .string x2.1.S] 79 (0, 0)), (b_2, .cells #[.int .i64 p1.K, .int .i64 p1.N, .string p1.S] 79 (0, 0)), (b_1, .cells #[.int .i64 p0.K, .int .i64 p0.N, .string p0.S] 79 (0, 0))]) Sz_79 rfl rfl rfl rfl rfl rfl ⟨rfl, rfl, rfl, trivial⟩ rfl rfl) rfl ?_
  refine lq (q_assign rfl) rfl ?_
  refine WL.nil ?_
  refine WT.ret Try.func115 (resOk.two (rv_cell Tn_79 rfl (fun w1 hw => hw.rgO (i := 0) rfl 0 3 [.int .i64 x2.1.K, .int .i64 x2.1.N, .string x2.1.S] rfl) rfl) rfl) (fun w1 hw => ?_)
  cases h
  exact post_of_St hw
theorem m_i_SubVals_ok {Φ : Hp} {w : World} (hΦ : In Φ w) (N : Nat) (p0 : TVal) (p1 : TVal)   {r : TVal × Bool} (h : m_i_SubVals N p0 p1 = some r) :
    Calls Try.prog 116 [.agg [.int .i64 p0.K, .int .i64 p0.N, .string p0.S].toArray, .agg [.int .i64 p1.K, .int .i64 p1.N, .string p1.S].toArray].toArray w (Post (.tuple #[.agg [.int .i64 r.1.K, .int .i64 r.1.N, .string r.1.S].toArray, .bool r.2]) w) := by
  refine enter Try.func116 rfl Try.ntmps116 rfl (St.start0 hΦ) ?_
  unfold m_i_SubVals at h
  refine WT.seq ?_
  refine WT.region ?_
  refine ln (n_box (C := #[.int .i64 p0.K, .int .i64 p0.N, .string p0.S]) rfl rfl) rfl (fun b_1 => ?_)
  refine ln (n_box (C := #[.int .i64 p1.K, .int .i64 p1.N, .string p1.S]) rfl rfl) rfl (fun b_2 => ?_)
  refine ln (n_alloc (C := #[.int .i64 0, .int .i64 0, .string (⟨#[]⟩ : ByteArray)]) Zr_79 rfl) rfl (fun b_3 => ?_)
  refine lq (q_assign rfl) rfl ?_
  refine WL.nil ?_
  refine WT.seq ?_
  refine WT.seq ?_
  refine WT.region ?_
  refine lq (q_loadN Tn_79 rfl (fun w1 hw => hw.rgO (i := 2) rfl 0 3 [.int .i64 p0.K, .int .i64 p0.N, .string p0.S] rfl) rfl) rfl ?_
  refine lq (q_loadN Tn_79 rfl (fun w1 hw => hw.rgO (i := 1) rfl 0 3 [.int .i64 p1.K, .int .i64 p1.N, .string p1.S] rfl) rfl) rfl ?_
  obtain ⟨x1, hx1, h⟩ := bind_some h
  refine lp (p_call Fun_165 rfl (fun w1 hw => m_i_areInts_ok hw.fro N p0 p1 hx1)) rfl ?_
  refine lq (q_not rfl) rfl ?_
  refine WL.nil ?_
  refine WT.cond rfl (fun c1 => ?_) (fun c1 => ?_)
  · replace h := ite_t h c1
    refine WT.seq ?_
    refine WT.region ?_
    refine lq (q_build (vs := []) (C := #[.int .i64 0, .int .i64 0, .string (⟨#[]⟩ : ByteArray)]) Pl_79 Zr_79 rfl (fill_nil)) rfl ?_
    refine ls (s_store (i := 0) (vs := [.int .i64 0, .int .i64 0, .string (⟨#[]⟩ : ByteArray)]) (C' := [.int .i64 0, .int .i64 0, .string (⟨#[]⟩ : ByteArray)]) (O' := [(b_3, .cells #[.int .i64 0, .int .i64 0, .string (⟨#[]⟩ : ByteArray)] 79 (0, 0)), (b_2, .cells #[.int .i64 p1.K, .int .i64 p1.N, .string p1.S] 79 (0, 0)), (b_1, .cells #[.int .i64 p0.K, .int .i64 p0.N, .string p0.S] 79 (0, 0))]) Sz_79 rfl rfl rfl rfl rfl rfl ⟨rfl, rfl, rfl, trivial⟩ rfl rfl) rfl ?_
    refine lq (q_assign rfl) rfl ?_
    refine WL.nil ?_
    refine WT.ret Try.func116 (resOk.two (rv_cell Tn_79 rfl (fun w1 hw => hw.rgO (i := 0) rfl 0 3 [.int .i64 0, .int .i64 0, .string (⟨#[]⟩ : ByteArray)] rfl) rfl) rfl) (fun w1 hw => ?_)
    cases h
    exact post_of_St hw
  replace h := ite_f h c1
  refine WT.skip ?_
  refine WT.seq ?_
  refine WT.region ?_
  refine lq (q_fieldAddr Fld_79_1 rfl) rfl ?_
  refine lq (q_load1 T1_3 rfl (fun w1 hw => hw.rgO (i := 2) rfl 1 1 [.int .i64 p0.N] rfl)) rfl ?_
  refine lq (q_fieldAddr Fld_79_1 rfl) rfl ?_
  refine lq (q_load1 T1_3 rfl (fun w1 hw => hw.rgO (i := 1) rfl 1 1 [.int .i64 p1.N] rfl)) rfl ?_
  refine lq (q_sub rfl rfl) rfl ?_
  obtain ⟨x2, hx2, h⟩ := bind_some h
  refine lp (p_call Fun_166 rfl (fun w1 hw => m_i_intVal_ok hw.fro N (IntKind.i64.wrap (p0.N - p1.N)) hx2)) rfl ?_
  refine lq (q_extract rfl rfl) rfl ?_
  refine lq (q_extract rfl rfl) rfl ?_
  refine ls (s_store (i := 0) (vs := [.int .i64 x2.1.K, .int .i64 x2.1.N, .string x2.1.S]) (C' := [.int .i64 x2.1.K, .int .i64 x2.1.N, .string x2.1.S]) (O' := [(b_3, .cells #[.int .i64 x2.1.K, .int .i64 x2.1.N, .string x2.1.S] 79 (0, 0)), (b_2, .cells #[.int .i64 p1.K, .int .i64 p1.N, .string p1.S] 79 (0, 0)), (b_1, .cells #[.int .i64 p0.K, .int .i64 p0.N, .string p0.S] 79 (0, 0))]) Sz_79 rfl rfl rfl rfl rfl rfl ⟨rfl, rfl, rfl, trivial⟩ rfl rfl) rfl ?_
  refine lq (q_assign rfl) rfl ?_
  refine WL.nil ?_
  refine WT.ret Try.func116 (resOk.two (rv_cell Tn_79 rfl (fun w1 hw => hw.rgO (i := 0) rfl 0 3 [.int .i64 x2.1.K, .int .i64 x2.1.N, .string x2.1.S] rfl) rfl) rfl) (fun w1 hw => ?_)
  cases h
  exact post_of_St hw
theorem m_i_Compute_ok {Φ : Hp} {w : World} (hΦ : In Φ w) (N : Nat) (p0 : TExpr) (p1 : (List TBind)) {pv1 : Value} {pG1 : List Nat} (ph1 : RSl RTBind 4 Φ pG1 pv1 p1) {r : TVal × Bool} (h : m_i_Compute N p0 p1 = some r) :
    Calls Try.prog 44 [.agg [.string p0.Op, .int .i64 p0.L.K, .string p0.L.S, .int .i64 p0.L.V.K, .int .i64 p0.L.V.N, .string p0.L.V.S, .int .i64 p0.R.K, .string p0.R.S, .int .i64 p0.R.V.K, .int .i64 p0.R.V.N, .string p0.R.V.S].toArray, pv1].toArray w (Post (.tuple #[.agg [.int .i64 r.1.K, .int .i64 r.1.N, .string r.1.S].toArray, .bool r.2]) w) := by
  refine enter Try.func44 rfl Try.ntmps44 rfl (St.start0 hΦ) ?_
  unfold m_i_Compute at h
  refine WT.seq ?_
  refine WT.region ?_
  refine ln (n_box (C := #[.string p0.Op, .int .i64 p0.L.K, .string p0.L.S, .int .i64 p0.L.V.K, .int .i64 p0.L.V.N, .string p0.L.V.S, .int .i64 p0.R.K, .string p0.R.S, .int .i64 p0.R.V.K, .int .i64 p0.R.V.N, .string p0.R.V.S]) rfl rfl) rfl (fun b_1 => ?_)
  refine ln (n_alloc (C := #[.int .i64 0, .int .i64 0, .string (⟨#[]⟩ : ByteArray)]) Zr_79 rfl) rfl (fun b_2 => ?_)
  refine lq (q_assign rfl) rfl ?_
  refine WL.nil ?_
  refine WT.seq ?_
  refine WT.region ?_
  refine lq (q_fieldAddr Fld_85_1 rfl) rfl ?_
  refine lq (q_loadN Tn_83 rfl (fun w1 hw => hw.rgO (i := 1) rfl 1 5 [.int .i64 p0.L.K, .string p0.L.S, .int .i64 p0.L.V.K, .int .i64 p0.L.V.N, .string p0.L.V.S] rfl) rfl) rfl ?_
  refine lq (q_move rfl) rfl ?_
  obtain ⟨x1, hx1, h⟩ := bind_some h
  refine lp (p_call Fun_114 rfl (fun w1 hw => m_i_ArgVal_ok hw.fro N p0.L p1 ph1 hx1)) rfl ?_
  refine lq (q_move rfl) rfl ?_
  refine lq (q_extract rfl rfl) rfl ?_
  refine lq (q_extract rfl rfl) rfl ?_
  refine ln (n_alloc (C := #[.int .i64 0, .int .i64 0, .string (⟨#[]⟩ : ByteArray)]) Zr_79 rfl) rfl (fun b_3 => ?_)
  refine ls (s_store (i := 0) (vs := [.int .i64 x1.1.K, .int .i64 x1.1.N, .string x1.1.S]) (C' := [.int .i64 x1.1.K, .int .i64 x1.1.N, .string x1.1.S]) (O' := [(b_3, .cells #[.int .i64 x1.1.K, .int .i64 x1.1.N, .string x1.1.S] 79 (0, 0)), (b_2, .cells #[.int .i64 0, .int .i64 0, .string (⟨#[]⟩ : ByteArray)] 79 (0, 0)), (b_1, .cells #[.string p0.Op, .int .i64 p0.L.K, .string p0.L.S, .int .i64 p0.L.V.K, .int .i64 p0.L.V.N, .string p0.L.V.S, .int .i64 p0.R.K, .string p0.R.S, .int .i64 p0.R.V.K, .int .i64 p0.R.V.N, .string p0.R.V.S] 85 (0, 0))]) Sz_79 rfl rfl rfl rfl rfl rfl ⟨rfl, rfl, rfl, trivial⟩ rfl rfl) rfl ?_
  refine lq (q_assign rfl) rfl ?_
  refine WL.nil ?_
  refine WT.seq ?_
  refine WT.seq ?_
  refine WT.region ?_
  refine lq (q_move rfl) rfl ?_
  refine lq (q_not rfl) rfl ?_
  refine lq (q_move rfl) rfl ?_
  obtain ⟨b1, hb_1, h⟩ := bind_some h
  refine WL.cutN 4 [(22, .bool b1), (1, pv1), (2, .pointer (some ⟨b_1, 0, none⟩)), (4, .pointer (some ⟨b_2, 0, none⟩)), (6, .pointer (some ⟨b_3, 0, none⟩)), (7, .bool x1.2)] ?_ (fun K => ?_)
  rotate_left
  · refine WL.split (d := 18) rfl (fun c1 => ?_) (fun c1 => ?_)
    · replace hb_1 := ite_t hb_1 c1
      refine WL.no rfl rfl rfl rfl ?_
      refine WL.no rfl rfl rfl rfl ?_
      refine WL.no rfl rfl rfl rfl ?_
      refine WL.q (q_pick1 rfl rfl) rfl rfl rfl ?_
      cases hb_1
      exact WL.keep (by exact ⟨rfl, rfl, rfl, rfl, rfl, rfl, trivial⟩) K
    · replace hb_1 := ite_f hb_1 c1
      refine WL.yes rfl rfl ?_
      refine lq (q_fieldAddr Fld_85_0 rfl) rfl ?_
      refine WL.yes rfl rfl ?_
      refine lq (q_load1 T1_9 rfl (fun w1 hw => hw.rgO (i := 2) rfl 0 1 [.string p0.Op] rfl)) rfl ?_
      refine WL.yes rfl rfl ?_
      refine lq (q_seq rfl rfl) rfl ?_
      refine WL.q (q_pick0 rfl rfl) rfl rfl rfl ?_
      cases hb_1
      exact WL.keep (by exact ⟨rfl, rfl, rfl, rfl, rfl, rfl, trivial⟩) K
  refine WL.nil ?_
  refine WT.cond rfl (fun c2 => ?_) (fun c2 => ?_)
  · replace h := ite_t h c2
    refine WT.seq ?_
    refine WT.region ?_
    refine lq (q_loadN Tn_79 rfl (fun w1 hw => hw.rgO (i := 0) rfl 0 3 [.int .i64 x1.1.K, .int .i64 x1.1.N, .string x1.1.S] rfl) rfl) rfl ?_
    refine lq (q_move rfl) rfl ?_
    refine ls (s_store (i := 1) (vs := [.int .i64 x1.1.K, .int .i64 x1.1.N, .string x1.1.S]) (C' := [.int .i64 x1.1.K, .int .i64 x1.1.N, .string x1.1.S]) (O' := [(b_3, .cells #[.int .i64 x1.1.K, .int .i64 x1.1.N, .string x1.1.S] 79 (0, 0)), (b_2, .cells #[.int .i64 x1.1.K, .int .i64 x1.1.N, .string x1.1.S] 79 (0, 0)), (b_1, .cells #[.string p0.Op, .int .i64 p0.L.K, .string p0.L.S, .int .i64 p0.L.V.K, .int .i64 p0.L.V.N, .string p0.L.V.S, .int .i64 p0.R.K, .string p0.R.S, .int .i64 p0.R.V.K, .int .i64 p0.R.V.N, .string p0.R.V.S] 85 (0, 0))]) Sz_79 rfl rfl rfl rfl rfl rfl ⟨rfl, rfl, rfl, trivial⟩ rfl rfl) rfl ?_
    refine lq (q_assign rfl) rfl ?_
    refine WL.nil ?_
    refine WT.ret Try.func44 (resOk.two (rv_cell Tn_79 rfl (fun w1 hw => hw.rgO (i := 1) rfl 0 3 [.int .i64 x1.1.K, .int .i64 x1.1.N, .string x1.1.S] rfl) rfl) rfl) (fun w1 hw => ?_)
    cases h
    exact post_of_St hw
  replace h := ite_f h c2
  refine WT.skip ?_
  refine WT.seq ?_
  refine WT.region ?_
  refine lq (q_fieldAddr Fld_85_2 rfl) rfl ?_
  refine lq (q_loadN Tn_83 rfl (fun w1 hw => hw.rgO (i := 2) rfl 6 5 [.int .i64 p0.R.K, .string p0.R.S, .int .i64 p0.R.V.K, .int .i64 p0.R.V.N, .string p0.R.V.S] rfl) rfl) rfl ?_
  refine lq (q_move rfl) rfl ?_
  obtain ⟨x2, hx2, h⟩ := bind_some h
  refine lp (p_call Fun_114 rfl (fun w1 hw => m_i_ArgVal_ok hw.fro N p0.R p1 ph1 hx2)) rfl ?_
  refine lq (q_move rfl) rfl ?_
  refine lq (q_extract rfl rfl) rfl ?_
  refine lq (q_extract rfl rfl) rfl ?_
  refine ln (n_alloc (C := #[.int .i64 0, .int .i64 0, .string (⟨#[]⟩ : ByteArray)]) Zr_79 rfl) rfl (fun b_4 => ?_)
  refine ls (s_store (i := 0) (vs := [.int .i64 x2.1.K, .int .i64 x2.1.N, .string x2.1.S]) (C' := [.int .i64 x2.1.K, .int .i64 x2.1.N, .string x2.1.S]) (O' := [(b_4, .cells #[.int .i64 x2.1.K, .int .i64 x2.1.N, .string x2.1.S] 79 (0, 0)), (b_3, .cells #[.int .i64 x1.1.K, .int .i64 x1.1.N, .string x1.1.S] 79 (0, 0)), (b_2, .cells #[.int .i64 0, .int .i64 0, .string (⟨#[]⟩ : ByteArray)] 79 (0, 0)), (b_1, .cells #[.string p0.Op, .int .i64 p0.L.K, .string p0.L.S, .int .i64 p0.L.V.K, .int .i64 p0.L.V.N, .string p0.L.V.S, .int .i64 p0.R.K, .string p0.R.S, .int .i64 p0.R.V.K, .int .i64 p0.R.V.N, .string p0.R.V.S] 85 (0, 0))]) Sz_79 rfl rfl rfl rfl rfl rfl ⟨rfl, rfl, rfl, trivial⟩ rfl rfl) rfl ?_
  refine lq (q_assign rfl) rfl ?_
  refine WL.nil ?_
  refine WT.seq ?_
  refine WT.seq ?_
  refine WT.region ?_
  refine lq (q_move rfl) rfl ?_
  refine lq (q_move rfl) rfl ?_
  obtain ⟨b2, hb_2, h⟩ := bind_some h
  refine WL.cutN 4 [(37, .bool b2), (2, .pointer (some ⟨b_1, 0, none⟩)), (4, .pointer (some ⟨b_2, 0, none⟩)), (6, .pointer (some ⟨b_3, 0, none⟩)), (7, .bool x2.2), (8, .pointer (some ⟨b_4, 0, none⟩))] ?_ (fun K => ?_)
  rotate_left
  · refine WL.split (d := 33) rfl (fun c3 => ?_) (fun c3 => ?_)
    · replace hb_2 := ite_t hb_2 c3
      refine WL.yes rfl rfl ?_
      refine lq (q_fieldAddr Fld_85_0 rfl) rfl ?_
      refine WL.yes rfl rfl ?_
      refine lq (q_load1 T1_9 rfl (fun w1 hw => hw.rgO (i := 3) rfl 0 1 [.string p0.Op] rfl)) rfl ?_
      refine WL.yes rfl rfl ?_
      refine lq (q_seq rfl rfl) rfl ?_
      refine WL.q (q_pick1 rfl rfl) rfl rfl rfl ?_
      cases hb_2
      exact WL.keep (by exact ⟨rfl, rfl, rfl, rfl, rfl, rfl, trivial⟩) K
    · replace hb_2 := ite_f hb_2 c3
      refine WL.no rfl rfl rfl rfl ?_
      refine WL.no rfl rfl rfl rfl ?_
      refine WL.no rfl rfl rfl rfl ?_
      refine WL.q (q_pick0 rfl rfl) rfl rfl rfl ?_
      cases hb_2
      exact WL.keep (by exact ⟨rfl, rfl, rfl, rfl, rfl, rfl, trivial⟩) K
  refine WL.nil ?_
  refine WT.cond rfl (fun c4 => ?_) (fun c4 => ?_)
  · replace h := ite_t h c4
    refine WT.seq ?_
    refine WT.region ?_
    refine lq (q_loadN Tn_79 rfl (fun w1 hw => hw.rgO (i := 1) rfl 0 3 [.int .i64 x1.1.K, .int .i64 x1.1.N, .string x1.1.S] rfl) rfl) rfl ?_
    refine lq (q_loadN Tn_79 rfl (fun w1 hw => hw.rgO (i := 0) rfl 0 3 [.int .i64 x2.1.K, .int .i64 x2.1.N, .string x2.1.S] rfl) rfl) rfl ?_
    obtain ⟨x3, hx3, h⟩ := bind_some h
    refine lp (p_call Fun_115 rfl (fun w1 hw => m_i_AddVals_ok hw.fro N x1.1 x2.1 hx3)) rfl ?_
    refine lq (q_extract rfl rfl) rfl ?_
    refine lq (q_extract rfl rfl) rfl ?_
    refine ls (s_store (i := 2) (vs := [.int .i64 x3.1.K, .int .i64 x3.1.N, .string x3.1.S]) (C' := [.int .i64 x3.1.K, .int .i64 x3.1.N, .string x3.1.S]) (O' := [(b_4, .cells #[.int .i64 x2.1.K, .int .i64 x2.1.N, .string x2.1.S] 79 (0, 0)), (b_3, .cells #[.int .i64 x1.1.K, .int .i64 x1.1.N, .string x1.1.S] 79 (0, 0)), (b_2, .cells #[.int .i64 x3.1.K, .int .i64 x3.1.N, .string x3.1.S] 79 (0, 0)), (b_1, .cells #[.string p0.Op, .int .i64 p0.L.K, .string p0.L.S, .int .i64 p0.L.V.K, .int .i64 p0.L.V.N, .string p0.L.V.S, .int .i64 p0.R.K, .string p0.R.S, .int .i64 p0.R.V.K, .int .i64 p0.R.V.N, .string p0.R.V.S] 85 (0, 0))]) Sz_79 rfl rfl rfl rfl rfl rfl ⟨rfl, rfl, rfl, trivial⟩ rfl rfl) rfl ?_
    refine lq (q_assign rfl) rfl ?_
    refine WL.nil ?_
    refine WT.ret Try.func44 (resOk.two (rv_cell Tn_79 rfl (fun w1 hw => hw.rgO (i := 2) rfl 0 3 [.int .i64 x3.1.K, .int .i64 x3.1.N, .string x3.1.S] rfl) rfl) rfl) (fun w1 hw => ?_)
    cases h
    exact post_of_St hw
  replace h := ite_f h c4
  refine WT.skip ?_
  refine WT.seq ?_
  refine WT.seq ?_
  refine WT.region ?_
  refine lq (q_move rfl) rfl ?_
  refine lq (q_move rfl) rfl ?_
  obtain ⟨b3, hb_3, h⟩ := bind_some h
  refine WL.cutN 4 [(48, .bool b3), (4, .pointer (some ⟨b_2, 0, none⟩)), (6, .pointer (some ⟨b_3, 0, none⟩)), (8, .pointer (some ⟨b_4, 0, none⟩))] ?_ (fun K => ?_)
  rotate_left
  · refine WL.split (d := 44) rfl (fun c5 => ?_) (fun c5 => ?_)
    · replace hb_3 := ite_t hb_3 c5
      refine WL.yes rfl rfl ?_
      refine lq (q_fieldAddr Fld_85_0 rfl) rfl ?_
      refine WL.yes rfl rfl ?_
      refine lq (q_load1 T1_9 rfl (fun w1 hw => hw.rgO (i := 3) rfl 0 1 [.string p0.Op] rfl)) rfl ?_
      refine WL.yes rfl rfl ?_
      refine lq (q_seq rfl rfl) rfl ?_
      refine WL.q (q_pick1 rfl rfl) rfl rfl rfl ?_
      cases hb_3
      exact WL.keep (by exact ⟨rfl, rfl, rfl, rfl, trivial⟩) K
    · replace hb_3 := ite_f hb_3 c5
      refine WL.no rfl rfl rfl rfl ?_
      refine WL.no rfl rfl rfl rfl ?_
      refine WL.no rfl rfl rfl rfl ?_
      refine WL.q (q_pick0 rfl rfl) rfl rfl rfl ?_
      cases hb_3
      exact WL.keep (by exact ⟨rfl, rfl, rfl, rfl, trivial⟩) K
  refine WL.nil ?_
  refine WT.cond rfl (fun c6 => ?_) (fun c6 => ?_)
  · replace h := ite_t h c6
    refine WT.seq ?_
    refine WT.region ?_
    refine lq (q_loadN Tn_79 rfl (fun w1 hw => hw.rgO (i := 1) rfl 0 3 [.int .i64 x1.1.K, .int .i64 x1.1.N, .string x1.1.S] rfl) rfl) rfl ?_
    refine lq (q_loadN Tn_79 rfl (fun w1 hw => hw.rgO (i := 0) rfl 0 3 [.int .i64 x2.1.K, .int .i64 x2.1.N, .string x2.1.S] rfl) rfl) rfl ?_
    obtain ⟨x4, hx4, h⟩ := bind_some h
    refine lp (p_call Fun_116 rfl (fun w1 hw => m_i_SubVals_ok hw.fro N x1.1 x2.1 hx4)) rfl ?_
    refine lq (q_extract rfl rfl) rfl ?_
    refine lq (q_extract rfl rfl) rfl ?_
    refine ls (s_store (i := 2) (vs := [.int .i64 x4.1.K, .int .i64 x4.1.N, .string x4.1.S]) (C' := [.int .i64 x4.1.K, .int .i64 x4.1.N, .string x4.1.S]) (O' := [(b_4, .cells #[.int .i64 x2.1.K, .int .i64 x2.1.N, .string x2.1.S] 79 (0, 0)), (b_3, .cells #[.int .i64 x1.1.K, .int .i64 x1.1.N, .string x1.1.S] 79 (0, 0)), (b_2, .cells #[.int .i64 x4.1.K, .int .i64 x4.1.N, .string x4.1.S] 79 (0, 0)), (b_1, .cells #[.string p0.Op, .int .i64 p0.L.K, .string p0.L.S, .int .i64 p0.L.V.K, .int .i64 p0.L.V.N, .string p0.L.V.S, .int .i64 p0.R.K, .string p0.R.S, .int .i64 p0.R.V.K, .int .i64 p0.R.V.N, .string p0.R.V.S] 85 (0, 0))]) Sz_79 rfl rfl rfl rfl rfl rfl ⟨rfl, rfl, rfl, trivial⟩ rfl rfl) rfl ?_
    refine lq (q_assign rfl) rfl ?_
    refine WL.nil ?_
    refine WT.ret Try.func44 (resOk.two (rv_cell Tn_79 rfl (fun w1 hw => hw.rgO (i := 2) rfl 0 3 [.int .i64 x4.1.K, .int .i64 x4.1.N, .string x4.1.S] rfl) rfl) rfl) (fun w1 hw => ?_)
    cases h
    exact post_of_St hw
  replace h := ite_f h c6
  refine WT.skip ?_
  refine WT.seq ?_
  refine WT.region ?_
  refine lq (q_build (vs := []) (C := #[.int .i64 0, .int .i64 0, .string (⟨#[]⟩ : ByteArray)]) Pl_79 Zr_79 rfl (fill_nil)) rfl ?_
  refine ls (s_store (i := 2) (vs := [.int .i64 0, .int .i64 0, .string (⟨#[]⟩ : ByteArray)]) (C' := [.int .i64 0, .int .i64 0, .string (⟨#[]⟩ : ByteArray)]) (O' := [(b_4, .cells #[.int .i64 x2.1.K, .int .i64 x2.1.N, .string x2.1.S] 79 (0, 0)), (b_3, .cells #[.int .i64 x1.1.K, .int .i64 x1.1.N, .string x1.1.S] 79 (0, 0)), (b_2, .cells #[.int .i64 0, .int .i64 0, .string (⟨#[]⟩ : ByteArray)] 79 (0, 0)), (b_1, .cells #[.string p0.Op, .int .i64 p0.L.K, .string p0.L.S, .int .i64 p0.L.V.K, .int .i64 p0.L.V.N, .string p0.L.V.S, .int .i64 p0.R.K, .string p0.R.S, .int .i64 p0.R.V.K, .int .i64 p0.R.V.N, .string p0.R.V.S] 85 (0, 0))]) Sz_79 rfl rfl rfl rfl rfl rfl ⟨rfl, rfl, rfl, trivial⟩ rfl rfl) rfl ?_
  refine lq (q_assign rfl) rfl ?_
  refine WL.nil ?_
  refine WT.ret Try.func44 (resOk.two (rv_cell Tn_79 rfl (fun w1 hw => hw.rgO (i := 2) rfl 0 3 [.int .i64 0, .int .i64 0, .string (⟨#[]⟩ : ByteArray)] rfl) rfl) rfl) (fun w1 hw => ?_)
  cases h
  exact post_of_St hw
theorem m_i_ComputeAll_ok {Φ : Hp} {w : World} (hΦ : In Φ w) (N : Nat) (p0 : (List TExpr)) (p1 : (List TBind)) {pv0 : Value} {pG0 : List Nat} {pv1 : Value} {pG1 : List Nat} (ph0 : RSl RTExpr 11 Φ pG0 pv0 p0) (ph1 : RSl RTBind 4 Φ pG1 pv1 p1) {r : (List TVal) × Bool} (h : m_i_ComputeAll N p0 p1 = some r) :
    Calls Try.prog 43 [pv0, pv1].toArray w (PostG Φ w [] (fun Φ' Fs v => ∃ (sr_0_0 : Value), v = .tuple #[sr_0_0, .bool r.2] ∧ Fs = [ob sr_0_0] ∧ OSl RTVal 79 3 Φ' [] sr_0_0 r.1)) := by
  refine enter Try.func43 rfl Try.ntmps43 rfl (St.start0 hΦ) ?_
  have pa0 : Old ⟨w, [], Φ⟩ pG0 := Old.mk hΦ ph0.kn (Dj.empty _)
  have pa1 : Old ⟨w, [], Φ⟩ pG1 := Old.mk hΦ ph1.kn (Dj.empty _)
  revert pa0 pa1
  generalize hb0 : (⟨w, [], Φ⟩ : Base) = w0
  intro pa0 pa1
  unfold m_i_ComputeAll at h
  refine WT.seq ?_
  refine WT.region ?_
  refine lq (q_assign rfl) rfl ?_
  refine lq (q_assign rfl) rfl ?_
  refine WL.nil ?_
  refine WT.seq ?_
  refine WT.region ?_
  refine lq (q_assign rfl) rfl ?_
  refine WL.nil ?_
  refine WT.seq ?_
  refine WT.seq ?_
  refine WT.region ?_
  refine lq (q_move rfl) rfl ?_
  refine lq (q_lenR Sl_73 rfl rfl ph0) rfl ?_
  refine lq (q_move rfl) rfl ?_
  refine WL.nil ?_
  refine WT.block ?_
  refine WT.loop ?_
  refine WT.conv (S' := St w0 Φ [] (ob (.slice none 0 0) :: [])) (fun w1 hw => hw.addNil) ?_
  have k1 := OSl.nil RTVal 79 3 Φ
  refine WT.mono (l' := [(1, pv1), (6, (.slice none 0 0)), (11, pv0), (12, .int .i64 (p0.length : Int)), (13, .int .i64 0)]) (S' := St w0 Φ [] [ob (.slice none 0 0)]) ⟨rfl, rfl, rfl, rfl, rfl, trivial⟩ (fun w1 hw => (hw.sel (js := [0]) rfl).selO (js := []) rfl) ?_
  refine loop_ind (σ := Hp × (List TVal) × Value × Int) (fun s => [(1, pv1), (6, s.2.2.1), (11, pv0), (12, .int .i64 (p0.length : Int)), (13, .int .i64 s.2.2.2)]) (fun s => St w0 s.1 [] [ob s.2.2.1]) (fun m s => m_i_ComputeAll_l1 N p0 p1 m s.2.1 s.2.2.2 = some r ∧ (OSl RTVal 79 3 s.1 [] s.2.2.1 s.2.1) ∧ (RSl RTBind 4 s.1 pG1 pv1 p1) ∧ (RSl RTExpr 11 s.1 pG0 pv0 p0)) (fun s hm => none_ne (show (none : Option ((List TVal) × Bool)) = some r from hm.1)) (fun n1 ih1 s hm => ?_) N (Φ, ([] : List TVal), (.slice none 0 0), 0) ⟨h, k1, ph1, ph0⟩
  obtain ⟨Φ_1, s1, u1, s2⟩ := s
  obtain ⟨h, k2, ph1, ph0⟩ := hm
  replace h : m_i_ComputeAll_l1 N p0 p1 (n1 + 1) s1 s2 = some r := h
  replace k2 : OSl RTVal 79 3 Φ_1 [] u1 s1 := k2
  replace ph1 : RSl RTBind 4 Φ_1 pG1 pv1 p1 := ph1
  replace ph0 : RSl RTExpr 11 Φ_1 pG0 pv0 p0 := ph0
  show WT _ _ [(1, pv1), (6, u1), (11, pv0), (12, .int .i64 (p0.length : Int)), (13, .int .i64 s2)] (St w0 Φ_1 [] [ob u1])
  unfold m_i_ComputeAll_l1 at h
  refine WT.seq ?_
  refine WT.region ?_
  refine lq (q_lss rfl rfl) rfl ?_
  refine WL.nil ?_
  refine WT.seq ?_
  refine WT.cond rfl (fun c1 => ?_) (fun c1 => ?_)
  · replace h := ite_t h c1
    refine WT.skip ?_
    refine WT.seq ?_
    refine WT.block ?_
    refine WT.seq ?_
    refine WT.region ?_
    obtain ⟨x1, hx1, h⟩ := bind_some h
    obtain ⟨cs1, F1, -, g1, hb1, hs1, r1⟩ := ph0.el (idx_some hx1).2.2
    obtain ⟨rfl, -⟩ := r1
    refine lq (q_indexAddr Sl_73 rfl rfl ph0 hx1) rfl ?_
    refine lq (q_loadN Tn_85 rfl (fun w1 hw => (g1.of_eq 0 11 rfl rfl : rg _ _ _ [.string x1.Op, .int .i64 x1.L.K, .string x1.L.S, .int .i64 x1.L.V.K, .int .i64 x1.L.V.N, .string x1.L.V.S, .int .i64 x1.R.K, .string x1.R.S, .int .i64 x1.R.V.K, .int .i64 x1.R.V.N, .string x1.R.V.S]).rangeAt hw.fro) rfl) rfl ?_
    refine ln (n_alloc (C := #[.string (⟨#[]⟩ : ByteArray), .int .i64 0, .string (⟨#[]⟩ : ByteArray), .int .i64 0, .int .i64 0, .string (⟨#[]⟩ : ByteArray), .int .i64 0, .string (⟨#[]⟩ : ByteArray), .int .i64 0, .int .i64 0, .string (⟨#[]⟩ : ByteArray)]) Zr_85 rfl) rfl (fun b_1 => ?_)
    refine ls (s_store (i := 0) (vs := [.string x1.Op, .int .i64 x1.L.K, .string x1.L.S, .int .i64 x1.L.V.K, .int .i64 x1.L.V.N, .string x1.L.V.S, .int .i64 x1.R.K, .string x1.R.S, .int .i64 x1.R.V.K, .int .i64 x1.R.V.N, .string x1.R.V.S]) (C' := [.string x1.Op, .int .i64 x1.L.K, .string x1.L.S, .int .i64 x1.L.V.K, .int .i64 x1.L.V.N, .string x1.L.V.S, .int .i64 x1.R.K, .string x1.R.S, .int .i64 x1.R.V.K, .int .i64 x1.R.V.N, .string x1.R.V.S]) (O' := [(b_1, .cells #[.string x1.Op, .int .i64 x1.L.K, .string x1.L.S, .int .i64 x1.L.V.K, .int .i64 x1.L.V.N, .string x1.L.V.S, .int .i64 x1.R.K, .string x1.R.S, .int .i64 x1.R.V.K, .int .i64 x1.R.V.N, .string x1.R.V.S] 85 (0, 0))]) Sz_85 rfl rfl rfl rfl rfl rfl ⟨rfl, rfl, rfl, rfl, rfl, rfl, rfl, rfl, rfl, rfl, rfl, trivial⟩ rfl rfl) rfl ?_
    refine WL.nil ?_
    refine WT.seq ?_
    refine WT.region ?_
    refine lq (q_loadN Tn_85 rfl (fun w1 hw => hw.rgO (i := 0) rfl 0 11 [.string x1.Op, .int .i64 x1.L.K, .string x1.L.S, .int .i64 x1.L.V.K, .int .i64 x1.L.V.N, .string x1.L.V.S, .int .i64 x1.R.K, .string x1.R.S, .int .i64 x1.R.V.K, .int .i64 x1.R.V.N, .string x1.R.V.S] rfl) rfl) rfl ?_
    refine lq (q_move rfl) rfl ?_
    obtain ⟨x2, hx2, h⟩ := bind_some h
    refine lp (p_call Fun_44 rfl (fun w1 hw => m_i_Compute_ok hw.fro N x1 p1 ph1 hx2)) rfl ?_
    refine lq (q_move rfl) rfl ?_
    refine lq (q_extract rfl rfl) rfl ?_
    refine lq (q_extract rfl rfl) rfl ?_
    refine ln (n_alloc (C := #[.int .i64 0, .int .i64 0, .string (⟨#[]⟩ : ByteArray)]) Zr_79 rfl) rfl (fun b_2 => ?_)
    refine ls (s_store (i := 0) (vs := [.int .i64 x2.1.K, .int .i64 x2.1.N, .string x2.1.S]) (C' := [.int .i64 x2.1.K, .int .i64 x2.1.N, .string x2.1.S]) (O' := [(b_2, .cells #[.int .i64 x2.1.K, .int .i64 x2.1.N, .string x2.1.S] 79 (0, 0)), (b_1, .cells #[.string x1.Op, .int .i64 x1.L.K, .string x1.L.S, .int .i64 x1.L.V.K, .int .i64 x1.L.V.N, .string x1.L.V.S, .int .i64 x1.R.K, .string x1.R.S, .int .i64 x1.R.V.K, .int .i64 x1.R.V.N, .string x1.R.V.S] 85 (0, 0))]) Sz_79 rfl rfl rfl rfl rfl rfl ⟨rfl, rfl, rfl, trivial⟩ rfl rfl) rfl ?_
    refine lq (q_assign rfl) rfl ?_
    refine WL.nil ?_
    refine WT.seq ?_
    refine WT.seq ?_
    refine WT.region ?_
    refine lq (q_move rfl) rfl ?_
    refine lq (q_not rfl) rfl ?_
    refine WL.nil ?_
    refine WT.cond rfl (fun c2 => ?_) (fun c2 => ?_)
    · replace h := ite_t h c2
      refine WT.seq ?_
      refine WT.region ?_
      refine lq (q_assign rfl) rfl ?_
      refine lq (q_assign rfl) rfl ?_
      refine WL.nil ?_
      refine WT.ret Try.func43 (resOk.two rfl rfl) (fun w1 hw => ?_)
      subst hb0
      cases h
      replace hw := hw.addNil
      refine postG_of_St (js := [0]) hw rfl ⟨.slice none 0 0, rfl, rfl, OSl.nil _ _ _ _⟩
    replace h := ite_f h c2
    refine WT.skip ?_
    refine WT.region ?_
    refine lq (q_move rfl) rfl ?_
    refine lq (q_loadN Tn_79 rfl (fun w1 hw => hw.rgO (i := 0) rfl 0 3 [.int .i64 x2.1.K, .int .i64 x2.1.N, .string x2.1.S] rfl) rfl) rfl ?_
    have rc1 : RC RTVal 3 Φ_1 ([[]] : List (List Nat)) [.int .i64 x2.1.K, .int .i64 x2.1.N, .string x2.1.S] ([x2.1] : List TVal) := RC.cons (c := [.int .i64 x2.1.K, .int .i64 x2.1.N, .string x2.1.S]) (cells := []) ⟨rfl, rfl⟩ rfl (RC.nil _ _ _)
    refine le' (e_lit (vs := [(0, .agg [.int .i64 x2.1.K, .int .i64 x2.1.N, .string x2.1.S].toArray)]) (C := #[.int .i64 x2.1.K, .int .i64 x2.1.N, .string x2.1.S]) RTVal.lasts Sl_38 Zr_79 rfl rfl rfl rfl (fill_made MC_79_1 (fill_cons (cells := [.int .i64 0, .int .i64 0, .string ⟨#[]⟩]) (c := [.int .i64 x2.1.K, .int .i64 x2.1.N, .string x2.1.S]) (C' := [.int .i64 x2.1.K, .int .i64 x2.1.N, .string x2.1.S]) rfl rfl rfl rfl rfl (fill_nil))) rfl rc1 rfl (by simpa using Kw.nil)) rfl (fun v1 Φ_2 D1 q1 => ?_)
    obtain ⟨fr1, h1⟩ := q1
    replace h1 : OSl RTVal 79 3 Φ_2 [] v1 ([x2.1] : List TVal) := by simpa using h1
    replace ph1 := ph1.frame RTBind.lasts fr1 (Dj.empty _)
    replace ph0 := ph0.frame RTExpr.lasts fr1 (Dj.empty _)
    replace k2 := k2.frame RTVal.lasts fr1 (Dj.empty _) (Dj.empty _)
    obtain ⟨x3, hx3, h⟩ := bind_some h
    refine le' (e_appF RTVal.lasts RTVal.one RTVal.flat Sl_38 Ei_79 rfl rfl rfl rfl rfl (js := [1]) (Rr := [ob v1]) rfl k2 h1.rsl hx3) rfl (fun v2 Φ_3 D2 q2 => ?_)
    obtain ⟨⟨ap1, fr2⟩, h2⟩ := q2
    replace ph1 := ph1.frame RTBind.lasts fr2 (ap1.o pa1)
    replace ph0 := ph0.frame RTExpr.lasts fr2 (ap1.o pa0)
    refine lq (q_assign rfl) rfl ?_
    refine WL.nil ?_
    refine WT.inBlock ?_
    refine WT.region ?_
    refine lq (q_add rfl rfl) rfl ?_
    refine lq (q_move rfl) rfl ?_
    refine WL.nil ?_
    refine WT.inLoop (WT.mono (l' := [(1, pv1), (6, v2), (11, pv0), (12, .int .i64 (p0.length : Int)), (13, .int .i64 (IntKind.i64.wrap (s2 + 1)))]) (S' := St w0 Φ_3 [] [ob v2]) ⟨rfl, rfl, rfl, rfl, rfl, trivial⟩ (fun w1 hw => (hw.sel (js := [0]) rfl).selO (js := []) rfl) ?_)
    exact ih1 (Φ_3, x3, v2, IntKind.i64.wrap (s2 + 1)) ⟨h, h2, ph1, ph0⟩
  replace h := ite_f h c1
  refine WT.exit rfl ?_
  refine WT.seq ?_
  refine WT.region ?_
  refine lq (q_move rfl) rfl ?_
  refine lq (q_assign rfl) rfl ?_
  refine lq (q_assign rfl) rfl ?_
  refine WL.nil ?_
  refine WT.ret Try.func43 (resOk.two rfl rfl) (fun w1 hw => ?_)
  subst hb0
  cases h
  refine postG_of_St (js := [0]) hw rfl ⟨u1, rfl, rfl, k2⟩
theorem m_s_BindOf_ok {Φ : Hp} {w : World} (hΦ : In Φ w) (N : Nat) (p0 : (List TBind)) (p1 : ByteArray) {pv0 : Value} {pG0 : List Nat} (ph0 : RSl RTBind 4 Φ pG0 pv0 p0) {r : TVal × Bool} (h : m_s_BindOf N p0 p1 = some r) :
    Calls Try.prog 168 [pv0, .string p1].toArray w (Post (.tuple #[.agg [.int .i64 r.1.K, .int .i64 r.1.N, .string r.1.S].toArray, .bool r.2]) w) := by
  refine enter Try.func168 rfl Try.ntmps168 rfl (St.start0 hΦ) ?_
  generalize hb0 : (⟨w, [], Φ⟩ : Base) = w0
  unfold m_s_BindOf at h
  refine WT.seq ?_
  refine WT.region ?_
  refine ln (n_alloc (C := #[.int .i64 0, .int .i64 0, .string (⟨#[]⟩ : ByteArray)]) Zr_79 rfl) rfl (fun b_1 => ?_)
  refine lq (q_assign rfl) rfl ?_
  refine WL.nil ?_
  refine WT.seq ?_
  refine WT.seq ?_
  refine WT.region ?_
  refine lq (q_assign rfl) rfl ?_
  refine WL.nil ?_
  refine WT.block ?_
  refine WT.loop ?_
  refine WT.mono (l' := [(0, pv0), (1, .string p1), (4, .pointer (some ⟨b_1, 0, none⟩)), (6, .int .i64 0)]) (S' := St w0 Φ [(b_1, .cells #[.int .i64 0, .int .i64 0, .string (⟨#[]⟩ : ByteArray)] 79 (0, 0))] []) ⟨rfl, rfl, rfl, rfl, trivial⟩ (fun w1 hw => (hw.sel (js := []) rfl).selO (js := [0]) rfl) ?_
  refine loop_ind (σ := Int) (fun s => [(0, pv0), (1, .string p1), (4, .pointer (some ⟨b_1, 0, none⟩)), (6, .int .i64 s)]) (fun s => St w0 Φ [(b_1, .cells #[.int .i64 0, .int .i64 0, .string (⟨#[]⟩ : ByteArray)] 79 (0, 0))] []) (fun m s => m_s_BindOf_l1 N p0 p1 m s = some r) (fun s hm => none_ne (show (none : Option (TVal × Bool)) = some r from hm)) (fun n1 ih1 s hm => ?_) N (0) h
  revert hm; revert s; intro s1 hm
  have h : m_s_BindOf_l1 N p0 p1 (n1 + 1) s1 = some r := hm
  show WT _ _ [(0, pv0), (1, .string p1), (4, .pointer (some ⟨b_1, 0, none⟩)), (6, .int .i64 s1)] (St w0 Φ [(b_1, .cells #[.int .i64 0, .int .i64 0, .string (⟨#[]⟩ : ByteArray)] 79 (0, 0))] [])
  unfold m_s_BindOf_l1 at h
  refine WT.seq ?_
  refine WT.seq ?_
  refine WT.region ?_
  refine lq (q_move rfl) rfl ?_
  refine lq (q_move rfl) rfl ?_
  refine lq (q_lenR Sl_28 rfl rfl ph0) rfl ?_
  refine lq (q_lss rfl rfl) rfl ?_
  refine WL.nil ?_
  refine WT.cond rfl (fun c1 => ?_) (fun c1 => ?_)
  · replace h := ite_t h c1
    refine WT.skip ?_
    refine WT.seq ?_
    refine WT.block ?_
    refine WT.seq ?_
    refine WT.region ?_
    refine lq (q_move rfl) rfl ?_
    refine lq (q_move rfl) rfl ?_
    obtain ⟨x1, hx1, h⟩ := bind_some h
    obtain ⟨cs1, F1, -, g1, hb1, hs1, r1⟩ := ph0.el (idx_some hx1).2.2
    obtain ⟨rfl, -⟩ := r1
    refine lq (q_indexAddr Sl_28 rfl rfl ph0 hx1) rfl ?_
    refine lq (q_fieldAddr Fld_142_0 rfl) rfl ?_
    refine lq (q_load1 T1_9 rfl (fun w1 hw => (g1.of_eq 0 1 rfl rfl : rg _ _ _ [.string x1.Name]).rangeAt hw.fro)) rfl ?_
    refine lq (q_move rfl) rfl ?_
    refine lq (q_seq rfl rfl) rfl ?_
    refine WL.nil ?_
    refine WT.cond rfl (fun c2 => ?_) (fun c2 => ?_)
    · replace h := ite_t h c2
      refine WT.seq ?_
      refine WT.region ?_
      refine lq (q_move rfl) rfl ?_
      refine lq (q_move rfl) rfl ?_
      obtain ⟨x2, hx2, h⟩ := bind_some h
      obtain ⟨cs2, F2, -, g2, hb2, hs2, r2⟩ := ph0.el (idx_some hx2).2.2
      obtain ⟨rfl, -⟩ := r2
      refine lq (q_indexAddr Sl_28 rfl rfl ph0 hx2) rfl ?_
      refine lq (q_fieldAddr Fld_142_1 rfl) rfl ?_
      refine lq (q_loadN Tn_79 rfl (fun w1 hw => (g2.of_eq 1 3 rfl rfl : rg _ _ _ [.int .i64 x2.V.K, .int .i64 x2.V.N, .string x2.V.S]).rangeAt hw.fro) rfl) rfl ?_
      refine ls (s_store (i := 0) (vs := [.int .i64 x2.V.K, .int .i64 x2.V.N, .string x2.V.S]) (C' := [.int .i64 x2.V.K, .int .i64 x2.V.N, .string x2.V.S]) (O' := [(b_1, .cells #[.int .i64 x2.V.K, .int .i64 x2.V.N, .string x2.V.S] 79 (0, 0))]) Sz_79 rfl rfl rfl rfl rfl rfl ⟨rfl, rfl, rfl, trivial⟩ rfl rfl) rfl ?_
      refine lq (q_assign rfl) rfl ?_
      refine WL.nil ?_
      refine WT.ret Try.func168 (resOk.two (rv_cell Tn_79 rfl (fun w1 hw => hw.rgO (i := 0) rfl 0 3 [.int .i64 x2.V.K, .int .i64 x2.V.N, .string x2.V.S] rfl) rfl) rfl) (fun w1 hw => ?_)
      subst hb0
      cases h
      exact post_of_St hw
    replace h := ite_f h c2
    refine WT.skip ?_
    refine WT.inBlock ?_
    refine WT.region ?_
    refine lq (q_move rfl) rfl ?_
    refine lq (q_add rfl rfl) rfl ?_
    refine lq (q_assign rfl) rfl ?_
    refine WL.nil ?_
    refine WT.inLoop (WT.mono (l' := [(0, pv0), (1, .string p1), (4, .pointer (some ⟨b_1, 0, none⟩)), (6, .int .i64 (IntKind.i64.wrap (s1 + 1)))]) (S' := St w0 Φ [(b_1, .cells #[.int .i64 0, .int .i64 0, .string (⟨#[]⟩ : ByteArray)] 79 (0, 0))] []) ⟨rfl, rfl, rfl, rfl, trivial⟩ (fun w1 hw => (hw.sel (js := []) rfl).selO (js := [0]) rfl) ?_)
    exact ih1 (IntKind.i64.wrap (s1 + 1)) h
  replace h := ite_f h c1
  refine WT.exit rfl ?_
  refine WT.seq ?_
  refine WT.region ?_
  refine lq (q_build (vs := []) (C := #[.int .i64 0, .int .i64 0, .string (⟨#[]⟩ : ByteArray)]) Pl_79 Zr_79 rfl (fill_nil)) rfl ?_
  refine ls (s_store (i := 0) (vs := [.int .i64 0, .int .i64 0, .string (⟨#[]⟩ : ByteArray)]) (C' := [.int .i64 0, .int .i64 0, .string (⟨#[]⟩ : ByteArray)]) (O' := [(b_1, .cells #[.int .i64 0, .int .i64 0, .string (⟨#[]⟩ : ByteArray)] 79 (0, 0))]) Sz_79 rfl rfl rfl rfl rfl rfl ⟨rfl, rfl, rfl, trivial⟩ rfl rfl) rfl ?_
  refine lq (q_assign rfl) rfl ?_
  refine WL.nil ?_
  refine WT.ret Try.func168 (resOk.two (rv_cell Tn_79 rfl (fun w1 hw => hw.rgO (i := 0) rfl 0 3 [.int .i64 0, .int .i64 0, .string (⟨#[]⟩ : ByteArray)] rfl) rfl) rfl) (fun w1 hw => ?_)
  subst hb0
  cases h
  exact post_of_St hw
theorem m_s_ArgVal_ok {Φ : Hp} {w : World} (hΦ : In Φ w) (N : Nat) (p0 : TArg) (p1 : (List TBind)) {pv1 : Value} {pG1 : List Nat} (ph1 : RSl RTBind 4 Φ pG1 pv1 p1) {r : TVal × Bool} (h : m_s_ArgVal N p0 p1 = some r) :
    Calls Try.prog 121 [.agg [.int .i64 p0.K, .string p0.S, .int .i64 p0.V.K, .int .i64 p0.V.N, .string p0.V.S].toArray, pv1].toArray w (Post (.tuple #[.agg [.int .i64 r.1.K, .int .i64 r.1.N, .string r.1.S].toArray, .bool r.2]) w) := by
  refine enter Try.func121 rfl Try.ntmps121 rfl (St.start0 hΦ) ?_
  unfold m_s_ArgVal at h
  refine WT.seq ?_
  refine WT.region ?_
  refine ln (n_box (C := #[.int .i64 p0.K, .string p0.S, .int .i64 p0.V.K, .int .i64 p0.V.N, .string p0.V.S]) rfl rfl) rfl (fun b_1 => ?_)
  refine ln (n_alloc (C := #[.int .i64 0, .int .i64 0, .string (⟨#[]⟩ : ByteArray)]) Zr_79 rfl) rfl (fun b_2 => ?_)
  refine lq (q_assign rfl) rfl ?_
  refine WL.nil ?_
  refine WT.seq ?_
  refine WT.seq ?_
  refine WT.region ?_
  refine lq (q_fieldAddr Fld_83_0 rfl) rfl ?_
  refine lq (q_load1 T1_3 rfl (fun w1 hw => hw.rgO (i := 1) rfl 0 1 [.int .i64 p0.K] rfl)) rfl ?_
  refine WL.nil ?_
  refine WT.block ?_
  refine WT.seq ?_
  refine WT.region ?_
  refine lq (q_eql rfl rfl) rfl ?_
  refine lq (q_assign rfl) rfl ?_
  refine WL.nil ?_
  refine WT.cond rfl (fun c1 => ?_) (fun c1 => ?_)
  · replace h := ite_t h c1
    refine WT.seq ?_
    refine WT.region ?_
    refine lq (q_fieldAddr Fld_83_2 rfl) rfl ?_
    refine lq (q_loadN Tn_79 rfl (fun w1 hw => hw.rgO (i := 1) rfl 2 3 [.int .i64 p0.V.K, .int .i64 p0.V.N, .string p0.V.S] rfl) rfl) rfl ?_
    refine ls (s_store (i := 0) (vs := [.int .i64 p0.V.K, .int .i64 p0.V.N, .string p0.V.S]) (C' := [.int .i64 p0.V.K, .int .i64 p0.V.N, .string p0.V.S]) (O' := [(b_2, .cells #[.int .i64 p0.V.K, .int .i64 p0.V.N, .string p0.V.S] 79 (0, 0)), (b_1, .cells #[.int .i64 p0.K, .string p0.S, .int .i64 p0.V.K, .int .i64 p0.V.N, .string p0.V.S] 83 (0, 0))]) Sz_79 rfl rfl rfl rfl rfl rfl ⟨rfl, rfl, rfl, trivial⟩ rfl rfl) rfl ?_
    refine lq (q_assign rfl) rfl ?_
    refine WL.nil ?_
    refine WT.ret Try.func121 (resOk.two (rv_cell Tn_79 rfl (fun w1 hw => hw.rgO (i := 0) rfl 0 3 [.int .i64 p0.V.K, .int .i64 p0.V.N, .string p0.V.S] rfl) rfl) rfl) (fun w1 hw => ?_)
    cases h
    exact post_of_St hw
  replace h := ite_f h c1
  refine WT.seq ?_
  refine WT.region ?_
  refine lq (q_eql rfl rfl) rfl ?_
  refine lq (q_assign rfl) rfl ?_
  refine WL.nil ?_
  refine WT.cond rfl (fun c2 => ?_) (fun c2 => ?_)
  · replace h := ite_t h c2
    refine WT.seq ?_
    refine WT.region ?_
    refine lq (q_move rfl) rfl ?_
    refine lq (q_fieldAddr Fld_83_1 rfl) rfl ?_
    refine lq (q_load1 T1_9 rfl (fun w1 hw => hw.rgO (i := 1) rfl 1 1 [.string p0.S] rfl)) rfl ?_
    obtain ⟨x1, hx1, h⟩ := bind_some h
    refine lp (p_call Fun_168 rfl (fun w1 hw => m_s_BindOf_ok hw.fro N p1 p0.S ph1 hx1)) rfl ?_
    refine lq (q_extract rfl rfl) rfl ?_
    refine lq (q_extract rfl rfl) rfl ?_
    refine ls (s_store (i := 0) (vs := [.int .i64 x1.1.K, .int .i64 x1.1.N, .string x1.1.S]) (C' := [.int .i64 x1.1.K, .int .i64 x1.1.N, .string x1.1.S]) (O' := [(b_2, .cells #[.int .i64 x1.1.K, .int .i64 x1.1.N, .string x1.1.S] 79 (0, 0)), (b_1, .cells #[.int .i64 p0.K, .string p0.S, .int .i64 p0.V.K, .int .i64 p0.V.N, .string p0.V.S] 83 (0, 0))]) Sz_79 rfl rfl rfl rfl rfl rfl ⟨rfl, rfl, rfl, trivial⟩ rfl rfl) rfl ?_
    refine lq (q_assign rfl) rfl ?_
    refine WL.nil ?_
    refine WT.ret Try.func121 (resOk.two (rv_cell Tn_79 rfl (fun w1 hw => hw.rgO (i := 0) rfl 0 3 [.int .i64 x1.1.K, .int .i64 x1.1.N, .string x1.1.S] rfl) rfl) rfl) (fun w1 hw => ?_)
    cases h
    exact post_of_St hw
  replace h := ite_f h c2
  refine WT.skip ?_
  refine WT.inBlock ?_
  refine WT.seq ?_
  refine WT.region ?_
  refine lq (q_build (vs := []) (C := #[.int .i64 0, .int .i64 0, .string (⟨#[]⟩ : ByteArray)]) Pl_79 Zr_79 rfl (fill_nil)) rfl ?_
  refine ls (s_store (i := 0) (vs := [.int .i64 0, .int .i64 0, .string (⟨#[]⟩ : ByteArray)]) (C' := [.int .i64 0, .int .i64 0, .string (⟨#[]⟩ : ByteArray)]) (O' := [(b_2, .cells #[.int .i64 0, .int .i64 0, .string (⟨#[]⟩ : ByteArray)] 79 (0, 0)), (b_1, .cells #[.int .i64 p0.K, .string p0.S, .int .i64 p0.V.K, .int .i64 p0.V.N, .string p0.V.S] 83 (0, 0))]) Sz_79 rfl rfl rfl rfl rfl rfl ⟨rfl, rfl, rfl, trivial⟩ rfl rfl) rfl ?_
  refine lq (q_assign rfl) rfl ?_
  refine WL.nil ?_
  refine WT.ret Try.func121 (resOk.two (rv_cell Tn_79 rfl (fun w1 hw => hw.rgO (i := 0) rfl 0 3 [.int .i64 0, .int .i64 0, .string (⟨#[]⟩ : ByteArray)] rfl) rfl) rfl) (fun w1 hw => ?_)
  cases h
  exact post_of_St hw
theorem m_s_l2Sum_ok {Φ : Hp} {w : World} (hΦ : In Φ w) (N : Nat) (p0 : TVal) (p1 : TVal) (p2 : Int)   {r : TVal × Bool} (h : m_s_l2Sum N p0 p1 p2 = some r) :
    Calls Try.prog 169 [.agg [.int .i64 p0.K, .int .i64 p0.N, .string p0.S].toArray, .agg [.int .i64 p1.K, .int .i64 p1.N, .string p1.S].toArray, .int .i64 p2].toArray w (Post (.tuple #[.agg [.int .i64 r.1.K, .int .i64 r.1.N, .string r.1.S].toArray, .bool r.2]) w) := by
  refine enter Try.func169 rfl Try.ntmps169 rfl (St.start0 hΦ) ?_
  unfold m_s_l2Sum at h
  refine WT.seq ?_
  refine WT.region ?_
  refine ln (n_box (C := #[.int .i64 p0.K, .int .i64 p0.N, .string p0.S]) rfl rfl) rfl (fun b_1 => ?_)
  refine ln (n_box (C := #[.int .i64 p1.K, .int .i64 p1.N, .string p1.S]) rfl rfl) rfl (fun b_2 => ?_)
  refine ln (n_alloc (C := #[.int .i64 0, .int .i64 0, .string (⟨#[]⟩ : ByteArray)]) Zr_79 rfl) rfl (fun b_3 => ?_)
  refine lq (q_assign rfl) rfl ?_
  refine WL.nil ?_
  refine WT.seq ?_
  refine WT.region ?_
  refine lq (q_move rfl) rfl ?_
  refine lq (q_build (vs := [(0, .int .i64 1), (1, .int .i64 p2)]) (C := #[.int .i64 1, .int .i64 p2, .string (⟨#[]⟩ : ByteArray)]) Pl_79 Zr_79 rfl (fill_cons (cells := [.int .i64 0, .int .i64 0, .string ⟨#[]⟩]) (c := [.int .i64 1]) (C' := [.int .i64 1, .int .i64 0, .string ⟨#[]⟩]) rfl rfl rfl rfl rfl (fill_cons (cells := [.int .i64 1, .int .i64 0, .string ⟨#[]⟩]) (c := [.int .i64 p2]) (C' := [.int .i64 1, .int .i64 p2, .string ⟨#[]⟩]) rfl rfl rfl rfl rfl (fill_nil)))) rfl ?_
  refine ln (n_alloc (C := #[.int .i64 0, .int .i64 0, .string (⟨#[]⟩ : ByteArray)]) Zr_79 rfl) rfl (fun b_4 => ?_)
  refine ls (s_store (i := 0) (vs := [.int .i64 1, .int .i64 p2, .string (⟨#[]⟩ : ByteArray)]) (C' := [.int .i64 1, .int .i64 p2, .string (⟨#[]⟩ : ByteArray)]) (O' := [(b_4, .cells #[.int .i64 1, .int .i64 p2, .string (⟨#[]⟩ : ByteArray)] 79 (0, 0)), (b_3, .cells #[.int .i64 0, .int .i64 0, .string (⟨#[]⟩ : ByteArray)] 79 (0, 0)), (b_2, .cells #[.int .i64 p1.K, .int .i64 p1.N, .string p1.S] 79 (0, 0)), (b_1, .cells #[.int .i64 p0.K, .int .i64 p0.N, .string p0.S] 79 (0, 0))]) Sz_79 rfl rfl rfl rfl rfl rfl ⟨rfl, rfl, rfl, trivial⟩ rfl rfl) rfl ?_
  refine WL.nil ?_
  refine WT.seq ?_
  refine WT.seq ?_
  refine WT.region ?_
  refine lq (q_fieldAddr Fld_79_0 rfl) rfl ?_
  refine lq (q_load1 T1_3 rfl (fun w1 hw => hw.rgO (i := 3) rfl 0 1 [.int .i64 p0.K] rfl)) rfl ?_
  refine lq (q_neq rfl rfl) rfl ?_
  refine lq (q_move rfl) rfl ?_
  obtain ⟨b1, hb_1, h⟩ := bind_some h
  refine WL.cutN 4 [(18, .bool b1), (3, .pointer (some ⟨b_1, 0, none⟩)), (4, .pointer (some ⟨b_2, 0, none⟩)), (6, .pointer (some ⟨b_3, 0, none⟩)), (8, .pointer (some ⟨b_4, 0, none⟩))] ?_ (fun K => ?_)
  rotate_left
  · refine WL.split (d := 14) rfl (fun c1 => ?_) (fun c1 => ?_)
    · replace hb_1 := ite_t hb_1 c1
      refine WL.no rfl rfl rfl rfl ?_
      refine WL.no rfl rfl rfl rfl ?_
      refine WL.no rfl rfl rfl rfl ?_
      refine WL.q (q_pick1 rfl rfl) rfl rfl rfl ?_
      cases hb_1
      exact WL.keep (by exact ⟨rfl, rfl, rfl, rfl, rfl, trivial⟩) K
    · replace hb_1 := ite_f hb_1 c1
      refine WL.yes rfl rfl ?_
      refine lq (q_fieldAddr Fld_79_0 rfl) rfl ?_
      refine WL.yes rfl rfl ?_
      refine lq (q_load1 T1_3 rfl (fun w1 hw => hw.rgO (i := 2) rfl 0 1 [.int .i64 p1.K] rfl)) rfl ?_
      refine WL.yes rfl rfl ?_
      refine lq (q_neq rfl rfl) rfl ?_
      refine WL.q (q_pick0 rfl rfl) rfl rfl rfl ?_
      cases hb_1
      exact WL.keep (by exact ⟨rfl, rfl, rfl, rfl, rfl, trivial⟩) K
  refine lq (q_move rfl) rfl ?_
  obtain ⟨b2, hb_2, h⟩ := bind_some h
  refine WL.cutN 4 [(23, .bool b2), (4, .pointer (some ⟨b_2, 0, none⟩)), (6, .pointer (some ⟨b_3, 0, none⟩)), (8, .pointer (some ⟨b_4, 0, none⟩))] ?_ (fun K => ?_)
  rotate_left
  · refine WL.split (d := 19) rfl (fun c2 => ?_) (fun c2 => ?_)
    · replace hb_2 := ite_t hb_2 c2
      refine WL.no rfl rfl rfl rfl ?_
      refine WL.no rfl rfl rfl rfl ?_
      refine WL.no rfl rfl rfl rfl ?_
      refine WL.q (q_pick1 rfl rfl) rfl rfl rfl ?_
      cases hb_2
      exact WL.keep (by exact ⟨rfl, rfl, rfl, rfl, trivial⟩) K
    · replace hb_2 := ite_f hb_2 c2
      refine WL.yes rfl rfl ?_
      refine lq (q_loadN Tn_79 rfl (fun w1 hw => hw.rgO (i := 3) rfl 0 3 [.int .i64 p0.K, .int .i64 p0.N, .string p0.S] rfl) rfl) rfl ?_
      refine WL.yes rfl rfl ?_
      obtain ⟨x1, hx1, hb_2⟩ := bind_some hb_2
      refine lp (p_call Fun_200 rfl (fun w1 hw => m_s_ValOk_ok hw.fro N p0 hx1)) rfl ?_
      refine WL.yes rfl rfl ?_
      refine lq (q_not rfl) rfl ?_
      refine WL.q (q_pick0 rfl rfl) rfl rfl rfl ?_
      cases hb_2
      exact WL.keep (by exact ⟨rfl, rfl, rfl, rfl, trivial⟩) K
  refine lq (q_move rfl) rfl ?_
  obtain ⟨b3, hb_3, h⟩ := bind_some h
  refine WL.cutN 4 [(28, .bool b3), (6, .pointer (some ⟨b_3, 0, none⟩)), (8, .pointer (some ⟨b_4, 0, none⟩))] ?_ (fun K => ?_)
  rotate_left
  · refine WL.split (d := 24) rfl (fun c3 => ?_) (fun c3 => ?_)
    · replace hb_3 := ite_t hb_3 c3
      refine WL.no rfl rfl rfl rfl ?_
      refine WL.no rfl rfl rfl rfl ?_
      refine WL.no rfl rfl rfl rfl ?_
      refine WL.q (q_pick1 rfl rfl) rfl rfl rfl ?_
      cases hb_3
      exact WL.keep (by exact ⟨rfl, rfl, rfl, trivial⟩) K
    · replace hb_3 := ite_f hb_3 c3
      refine WL.yes rfl rfl ?_
      refine lq (q_loadN Tn_79 rfl (fun w1 hw => hw.rgO (i := 2) rfl 0 3 [.int .i64 p1.K, .int .i64 p1.N, .string p1.S] rfl) rfl) rfl ?_
      refine WL.yes rfl rfl ?_
      obtain ⟨x2, hx2, hb_3⟩ := bind_some hb_3
      refine lp (p_call Fun_200 rfl (fun w1 hw => m_s_ValOk_ok hw.fro N p1 hx2)) rfl ?_
      refine WL.yes rfl rfl ?_
      refine lq (q_not rfl) rfl ?_
      refine WL.q (q_pick0 rfl rfl) rfl rfl rfl ?_
      cases hb_3
      exact WL.keep (by exact ⟨rfl, rfl, rfl, trivial⟩) K
  refine lq (q_move rfl) rfl ?_
  obtain ⟨b4, hb_4, h⟩ := bind_some h
  refine WL.cutN 4 [(33, .bool b4), (6, .pointer (some ⟨b_3, 0, none⟩)), (8, .pointer (some ⟨b_4, 0, none⟩))] ?_ (fun K => ?_)
  rotate_left
  · refine WL.split (d := 29) rfl (fun c4 => ?_) (fun c4 => ?_)
    · replace hb_4 := ite_t hb_4 c4
      refine WL.no rfl rfl rfl rfl ?_
      refine WL.no rfl rfl rfl rfl ?_
      refine WL.no rfl rfl rfl rfl ?_
      refine WL.q (q_pick1 rfl rfl) rfl rfl rfl ?_
      cases hb_4
      exact WL.keep (by exact ⟨rfl, rfl, rfl, trivial⟩) K
    · replace hb_4 := ite_f hb_4 c4
      refine WL.yes rfl rfl ?_
      refine lq (q_loadN Tn_79 rfl (fun w1 hw => hw.rgO (i := 0) rfl 0 3 [.int .i64 1, .int .i64 p2, .string (⟨#[]⟩ : ByteArray)] rfl) rfl) rfl ?_
      refine WL.yes rfl rfl ?_
      obtain ⟨x3, hx3, hb_4⟩ := bind_some hb_4
      refine lp (p_call Fun_200 rfl (fun w1 hw => m_s_ValOk_ok hw.fro N (⟨1, p2, (⟨#[]⟩ : ByteArray)⟩ : TVal) hx3)) rfl ?_
      refine WL.yes rfl rfl ?_
      refine lq (q_not rfl) rfl ?_
      refine WL.q (q_pick0 rfl rfl) rfl rfl rfl ?_
      cases hb_4
      exact WL.keep (by exact ⟨rfl, rfl, rfl, trivial⟩) K
  refine WL.nil ?_
  refine WT.cond rfl (fun c5 => ?_) (fun c5 => ?_)
  · replace h := ite_t h c5
    refine WT.seq ?_
    refine WT.region ?_
    refine lq (q_build (vs := []) (C := #[.int .i64 0, .int .i64 0, .string (⟨#[]⟩ : ByteArray)]) Pl_79 Zr_79 rfl (fill_nil)) rfl ?_
    refine ls (s_store (i := 1) (vs := [.int .i64 0, .int .i64 0, .string (⟨#[]⟩ : ByteArray)]) (C' := [.int .i64 0, .int .i64 0, .string (⟨#[]⟩ : ByteArray)]) (O' := [(b_4, .cells #[.int .i64 1, .int .i64 p2, .string (⟨#[]⟩ : ByteArray)] 79 (0, 0)), (b_3, .cells #[.int .i64 0, .int .i64 0, .string (⟨#[]⟩ : ByteArray)] 79 (0, 0)), (b_2, .cells #[.int .i64 p1.K, .int .i64 p1.N, .string p1.S] 79 (0, 0)), (b_1, .cells #[.int .i64 p0.K, .int .i64 p0.N, .string p0.S] 79 (0, 0))]) Sz_79 rfl rfl rfl rfl rfl rfl ⟨rfl, rfl, rfl, trivial⟩ rfl rfl) rfl ?_
    refine lq (q_assign rfl) rfl ?_
    refine WL.nil ?_
    refine WT.ret Try.func169 (resOk.two (rv_cell Tn_79 rfl (fun w1 hw => hw.rgO (i := 1) rfl 0 3 [.int .i64 0, .int .i64 0, .string (⟨#[]⟩ : ByteArray)] rfl) rfl) rfl) (fun w1 hw => ?_)
    cases h
    exact post_of_St hw
  replace h := ite_f h c5
  refine WT.skip ?_
  refine WT.seq ?_
  refine WT.region ?_
  refine lq (q_loadN Tn_79 rfl (fun w1 hw => hw.rgO (i := 0) rfl 0 3 [.int .i64 1, .int .i64 p2, .string (⟨#[]⟩ : ByteArray)] rfl) rfl) rfl ?_
  refine ls (s_store (i := 1) (vs := [.int .i64 1, .int .i64 p2, .string (⟨#[]⟩ : ByteArray)]) (C' := [.int .i64 1, .int .i64 p2, .string (⟨#[]⟩ : ByteArray)]) (O' := [(b_4, .cells #[.int .i64 1, .int .i64 p2, .string (⟨#[]⟩ : ByteArray)] 79 (0, 0)), (b_3, .cells #[.int .i64 1, .int .i64 p2, .string (⟨#[]⟩ : ByteArray)] 79 (0, 0)), (b_2, .cells #[.int .i64 p1.K, .int .i64 p1.N, .string p1.S] 79 (0, 0)), (b_1, .cells #[.int .i64 p0.K, .int .i64 p0.N, .string p0.S] 79 (0, 0))]) Sz_79 rfl rfl rfl rfl rfl rfl ⟨rfl, rfl, rfl, trivial⟩ rfl rfl) rfl ?_
  refine lq (q_assign rfl) rfl ?_
  refine WL.nil ?_
  refine WT.ret Try.func169 (resOk.two (rv_cell Tn_79 rfl (fun w1 hw => hw.rgO (i := 1) rfl 0 3 [.int .i64 1, .int .i64 p2, .string (⟨#[]⟩ : ByteArray)] rfl) rfl) rfl) (fun w1 hw => ?_)
  cases h
  exact post_of_St hw
theorem m_s_AddVals_ok {Φ : Hp} {w : World} (hΦ : In Φ w) (N : Nat) (p0 : TVal) (p1 : TVal)   {r : TVal × Bool} (h : m_s_AddVals N p0 p1 = some r) :
    Calls Try.prog 122 [.agg [.int .i64 p0.K, .int .i64 p0.N, .string p0.S].toArray, .agg [.int .i64 p1.K, .int .i64 p1.N, .string p1.S].toArray].toArray w (Post (.tuple #[.agg [.int .i64 r.1.K, .int .i64 r.1.N, .string r.1.S].toArray, .bool r.2]) w) := by
  refine enter Try.func122 rfl Try.ntmps122 rfl (St.start0 hΦ) ?_
  unfold m_s_AddVals at h
  refine WT.seq ?_
  refine WT.region ?_
  refine ln (n_box (C := #[.int .i64 p0.K, .int .i64 p0.N, .string p0.S]) rfl rfl) rfl (fun b_1 => ?_)
  refine ln (n_box (C := #[.int .i64 p1.K, .int .i64 p1.N, .string p1.S]) rfl rfl) rfl (fun b_2 => ?_)
  refine ln (n_alloc (C := #[.int .i64 0, .int .i64 0, .string (⟨#[]⟩ : ByteArray)]) Zr_79 rfl) rfl (fun b_3 => ?_)
  refine lq (q_assign rfl) rfl ?_
  refine WL.nil ?_
  refine WT.seq ?_
  refine WT.region ?_
  refine lq (q_loadN Tn_79 rfl (fun w1 hw => hw.rgO (i := 2) rfl 0 3 [.int .i64 p0.K, .int .i64 p0.N, .string p0.S] rfl) rfl) rfl ?_
  refine lq (q_loadN Tn_79 rfl (fun w1 hw => hw.rgO (i := 1) rfl 0 3 [.int .i64 p1.K, .int .i64 p1.N, .string p1.S] rfl) rfl) rfl ?_
  refine lq (q_fieldAddr Fld_79_1 rfl) rfl ?_
  refine lq (q_load1 T1_3 rfl (fun w1 hw => hw.rgO (i := 2) rfl 1 1 [.int .i64 p0.N] rfl)) rfl ?_
  refine lq (q_fieldAddr Fld_79_1 rfl) rfl ?_
  refine lq (q_load1 T1_3 rfl (fun w1 hw => hw.rgO (i := 1) rfl 1 1 [.int .i64 p1.N] rfl)) rfl ?_
  refine lq (q_add rfl rfl) rfl ?_
  obtain ⟨x1, hx1, h⟩ := bind_some h
  refine lp (p_call Fun_169 rfl (fun w1 hw => m_s_l2Sum_ok hw.fro N p0 p1 (IntKind.i64.wrap (p0.N + p1.N)) hx1)) rfl ?_
  refine lq (q_extract rfl rfl) rfl ?_
  refine lq (q_extract rfl rfl) rfl ?_
  refine ls (s_store (i := 0) (vs := [.int .i64 x1.1.K, .int .i64 x1.1.N, .string x1.1.S]) (C' := [.int .i64 x1.1.K, .int .i64 x1.1.N, .string x1.1.S]) (O' := [(b_3, .cells #[.int .i64 x1.1.K, .int .i64 x1.1.N, .string x1.1.S] 79 (0, 0)), (b_2, .cells #[.int .i64 p1.K, .int .i64 p1.N, .string p1.S] 79 (0, 0)), (b_1, .cells #[.int .i64 p0.K, .int .i64 p0.N, .string p0.S] 79 (0, 0))]) Sz_79 rfl rfl rfl rfl rfl rfl ⟨rfl, rfl, rfl, trivial⟩ rfl rfl) rfl ?_
  refine lq (q_assign rfl) rfl ?_
  refine WL.nil ?_
  refine WT.ret Try.func122 (resOk.two (rv_cell Tn_79 rfl (fun w1 hw => hw.rgO (i := 0) rfl 0 3 [.int .i64 x1.1.K, .int .i64 x1.1.N, .string x1.1.S] rfl) rfl) rfl) (fun w1 hw => ?_)
  cases h
  exact post_of_St hw
theorem m_s_SubVals_ok {Φ : Hp} {w : World} (hΦ : In Φ w) (N : Nat) (p0 : TVal) (p1 : TVal)   {r : TVal × Bool} (h : m_s_SubVals N p0 p1 = some r) :
    Calls Try.prog 123 [.agg [.int .i64 p0.K, .int .i64 p0.N, .string p0.S].toArray, .agg [.int .i64 p1.K, .int .i64 p1.N, .string p1.S].toArray].toArray w (Post (.tuple #[.agg [.int .i64 r.1.K, .int .i64 r.1.N, .string r.1.S].toArray, .bool r.2]) w) := by
  refine enter Try.func123 rfl Try.ntmps123 rfl (St.start0 hΦ) ?_
  unfold m_s_SubVals at h
  refine WT.seq ?_
  refine WT.region ?_
  refine ln (n_box (C := #[.int .i64 p0.K, .int .i64 p0.N, .string p0.S]) rfl rfl) rfl (fun b_1 => ?_)
  refine ln (n_box (C := #[.int .i64 p1.K, .int .i64 p1.N, .string p1.S]) rfl rfl) rfl (fun b_2 => ?_)
  refine ln (n_alloc (C := #[.int .i64 0, .int .i64 0, .string (⟨#[]⟩ : ByteArray)]) Zr_79 rfl) rfl (fun b_3 => ?_)
  refine lq (q_assign rfl) rfl ?_
  refine WL.nil ?_
  refine WT.seq ?_
  refine WT.region ?_
  refine lq (q_loadN Tn_79 rfl (fun w1 hw => hw.rgO (i := 2) rfl 0 3 [.int .i64 p0.K, .int .i64 p0.N, .string p0.S] rfl) rfl) rfl ?_
  refine lq (q_loadN Tn_79 rfl (fun w1 hw => hw.rgO (i := 1) rfl 0 3 [.int .i64 p1.K, .int .i64 p1.N, .string p1.S] rfl) rfl) rfl ?_
  refine lq (q_fieldAddr Fld_79_1 rfl) rfl ?_
  refine lq (q_load1 T1_3 rfl (fun w1 hw => hw.rgO (i := 2) rfl 1 1 [.int .i64 p0.N] rfl)) rfl ?_
  refine lq (q_fieldAddr Fld_79_1 rfl) rfl ?_
  refine lq (q_load1 T1_3 rfl (fun w1 hw => hw.rgO (i := 1) rfl 1 1 [.int .i64 p1.N] rfl)) rfl ?_
  refine lq (q_sub rfl rfl) rfl ?_
  obtain ⟨x1, hx1, h⟩ := bind_some h
  refine lp (p_call Fun_169 rfl (fun w1 hw => m_s_l2Sum_ok hw.fro N p0 p1 (IntKind.i64.wrap (p0.N - p1.N)) hx1)) rfl ?_
  refine lq (q_extract rfl rfl) rfl ?_
  refine lq (q_extract rfl rfl) rfl ?_
  refine ls (s_store (i := 0) (vs := [.int .i64 x1.1.K, .int .i64 x1.1.N, .string x1.1.S]) (C' := [.int .i64 x1.1.K, .int .i64 x1.1.N, .string x1.1.S]) (O' := [(b_3, .cells #[.int .i64 x1.1.K, .int .i64 x1.1.N, .string x1.1.S] 79 (0, 0)), (b_2, .cells #[.int .i64 p1.K, .int .i64 p1.N, .string p1.S] 79 (0, 0)), (b_1, .cells #[.int .i64 p0.K, .int .i64 p0.N, .string p0.S] 79 (0, 0))]) Sz_79 rfl rfl rfl rfl rfl rfl ⟨rfl, rfl, rfl, trivial⟩ rfl rfl) rfl ?_
  refine lq (q_assign rfl) rfl ?_
  refine WL.nil ?_
  refine WT.ret Try.func123 (resOk.two (rv_cell Tn_79 rfl (fun w1 hw => hw.rgO (i := 0) rfl 0 3 [.int .i64 x1.1.K, .int .i64 x1.1.N, .string x1.1.S] rfl) rfl) rfl) (fun w1 hw => ?_)
  cases h
  exact post_of_St hw
theorem m_s_Compute_ok {Φ : Hp} {w : World} (hΦ : In Φ w) (N : Nat) (p0 : TExpr) (p1 : (List TBind)) {pv1 : Value} {pG1 : List Nat} (ph1 : RSl RTBind 4 Φ pG1 pv1 p1) {r : TVal × Bool} (h : m_s_Compute N p0 p1 = some r) :
    Calls Try.prog 47 [.agg [.string p0.Op, .int .i64 p0.L.K, .string p0.L.S, .int .i64 p0.L.V.K, .int .i64 p0.L.V.N, .string p0.L.V.S, .int .i64 p0.R.K, .string p0.R.S, .int .i64 p0.R.V.K, .int .i64 p0.R.V.N, .string p0.R.V.S].toArray, pv1].toArray w (Post (.tuple #[.agg [.int .i64 r.1.K, .int .i64 r.1.N, .string r.1.S].toArray, .bool r.2]) w) := by
  refine enter Try.func47 rfl Try.ntmps47 rfl (St.start0 hΦ) ?_
  unfold m_s_Compute at h
  refine WT.seq ?_
  refine WT.region ?_
  refine ln (n_box (C := #[.string p0.Op, .int .i64 p0.L.K, .string p0.L.S, .int .i64 p0.L.V.K, .int .i64 p0.L.V.N, .string p0.L.V.S, .int .i64 p0.R.K, .string p0.R.S, .int .i64 p0.R.V.K, .int .i64 p0.R.V.N, .string p0.R.V.S]) rfl rfl) rfl (fun b_1 => ?_)
  refine ln (n_alloc (C := #[.int .i64 0, .int .i64 0, .string (⟨#[]⟩ : ByteArray)]) Zr_79 rfl) rfl (fun b_2 => ?_)
  refine lq (q_assign rfl) rfl ?_
  refine WL.nil ?_
  refine WT.seq ?_
  refine WT.region ?_
  refine lq (q_fieldAddr Fld_85_1 rfl) rfl ?_
  refine lq (q_loadN Tn_83 rfl (fun w1 hw => hw.rgO (i := 1) rfl 1 5 [.int .i64 p0.L.K, .string p0.L.S, .int .i64 p0.L.V.K, .int .i64 p0.L.V.N, .string p0.L.V.S] rfl) rfl) rfl ?_
  refine lq (q_move rfl) rfl ?_
  obtain ⟨x1, hx1, h⟩ := bind_some h
  refine lp (p_call Fun_121 rfl (fun w1 hw => m_s_ArgVal_ok hw.fro N p0.L p1 ph1 hx1)) rfl ?_
  refine lq (q_move rfl) rfl ?_
  refine lq (q_extract rfl rfl) rfl ?_
  refine lq (q_extract rfl rfl) rfl ?_
  refine ln (n_alloc (C := #[.int .i64 0, .int .i64 0, .string (⟨#[]⟩ : ByteArray)]) Zr_79 rfl) rfl (fun b_3 => ?_)
  refine ls (s_store (i := 0) (vs := [.int .i64 x1.1.K, .int .i64 x1.1.N, .string x1.1.S]) (C' := [.int .i64 x1.1.K, .int .i64 x1.1.N, .string x1.1.S]) (O' := [(b_3, .cells #[.int .i64 x1.1.K, .int .i64 x1.1.N, .string x1.1.S] 79 (0, 0)), (b_2, .cells #[.int .i64 0, .int .i64 0, .string (⟨#[]⟩ : ByteArray)] 79 (0, 0)), (b_1, .cells #[.string p0.Op, .int .i64 p0.L.K, .string p0.L.S, .int .i64 p0.L.V.K, .int .i64 p0.L.V.N, .string p0.L.V.S, .int .i64 p0.R.K, .string p0.R.S, .int .i64 p0.R.V.K, .int .i64 p0.R.V.N, .string p0.R.V.S] 85 (0, 0))]) Sz_79 rfl rfl rfl rfl rfl rfl ⟨rfl, rfl, rfl, trivial⟩ rfl rfl) rfl ?_
  refine lq (q_assign rfl) rfl ?_
  refine WL.nil ?_
  refine WT.seq ?_
  refine WT.region ?_
  refine lq (q_fieldAddr Fld_85_2 rfl) rfl ?_
  refine lq (q_loadN Tn_83 rfl (fun w1 hw => hw.rgO (i := 2) rfl 6 5 [.int .i64 p0.R.K, .string p0.R.S, .int .i64 p0.R.V.K, .int .i64 p0.R.V.N, .string p0.R.V.S] rfl) rfl) rfl ?_
  refine lq (q_move rfl) rfl ?_
  obtain ⟨x2, hx2, h⟩ := bind_some h
  refine lp (p_call Fun_121 rfl (fun w1 hw => m_s_ArgVal_ok hw.fro N p0.R p1 ph1 hx2)) rfl ?_
  refine lq (q_move rfl) rfl ?_
  refine lq (q_extract rfl rfl) rfl ?_
  refine lq (q_extract rfl rfl) rfl ?_
  refine ln (n_alloc (C := #[.int .i64 0, .int .i64 0, .string (⟨#[]⟩ : ByteArray)]) Zr_79 rfl) rfl (fun b_4 => ?_)
  refine ls (s_store (i := 0) (vs := [.int .i64 x2.1.K, .int .i64 x2.1.N, .string x2.1.S]) (C' := [.int .i64 x2.1.K, .int .i64 x2.1.N, .string x2.1.S]) (O' := [(b_4, .cells #[.int .i64 x2.1.K, .int .i64 x2.1.N, .string x2.1.S] 79 (0, 0)), (b_3, .cells #[.int .i64 x1.1.K, .int .i64 x1.1.N, .string x1.1.S] 79 (0, 0)), (b_2, .cells #[.int .i64 0, .int .i64 0, .string (⟨#[]⟩ : ByteArray)] 79 (0, 0)), (b_1, .cells #[.string p0.Op, .int .i64 p0.L.K, .string p0.L.S, .int .i64 p0.L.V.K, .int .i64 p0.L.V.N, .string p0.L.V.S, .int .i64 p0.R.K, .string p0.R.S, .int .i64 p0.R.V.K, .int .i64 p0.R.V.N, .string p0.R.V.S] 85 (0, 0))]) Sz_79 rfl rfl rfl rfl rfl rfl ⟨rfl, rfl, rfl, trivial⟩ rfl rfl) rfl ?_
  refine lq (q_assign rfl) rfl ?_
  refine WL.nil ?_
  refine WT.seq ?_
  refine WT.block ?_
  refine WT.seq ?_
  refine WT.region ?_
  refine lq (q_move rfl) rfl ?_
  refine lq (q_not rfl) rfl ?_
  refine lq (q_assign rfl) rfl ?_
  refine WL.nil ?_
  refine WT.cond rfl (fun c1 => ?_) (fun c1 => ?_)
  · replace h := ite_t h c1
    refine WT.seq ?_
    refine WT.region ?_
    refine lq (q_build (vs := []) (C := #[.int .i64 0, .int .i64 0, .string (⟨#[]⟩ : ByteArray)]) Pl_79 Zr_79 rfl (fill_nil)) rfl ?_
    refine ls (s_store (i := 2) (vs := [.int .i64 0, .int .i64 0, .string (⟨#[]⟩ : ByteArray)]) (C' := [.int .i64 0, .int .i64 0, .string (⟨#[]⟩ : ByteArray)]) (O' := [(b_4, .cells #[.int .i64 x2.1.K, .int .i64 x2.1.N, .string x2.1.S] 79 (0, 0)), (b_3, .cells #[.int .i64 x1.1.K, .int .i64 x1.1.N, .string x1.1.S] 79 (0, 0)), (b_2, .cells #[.int .i64 0, .int .i64 0, .string (⟨#[]⟩ : ByteArray)] 79 (0, 0)), (b_1, .cells #[.string p0.Op, .int .i64 p0.L.K, .string p0.L.S, .int .i64 p0.L.V.K, .int .i64 p0.L.V.N, .string p0.L.V.S, .int .i64 p0.R.K, .string p0.R.S, .int .i64 p0.R.V.K, .int .i64 p0.R.V.N, .string p0.R.V.S] 85 (0, 0))]) Sz_79 rfl rfl rfl rfl rfl rfl ⟨rfl, rfl, rfl, trivial⟩ rfl rfl) rfl ?_
    refine lq (q_assign rfl) rfl ?_
    refine WL.nil ?_
    refine WT.ret Try.func47 (resOk.two (rv_cell Tn_79 rfl (fun w1 hw => hw.rgO (i := 2) rfl 0 3 [.int .i64 0, .int .i64 0, .string (⟨#[]⟩ : ByteArray)] rfl) rfl) rfl) (fun w1 hw => ?_)
    cases h
    exact post_of_St hw
  replace h := ite_f h c1
  refine WT.seq ?_
  refine WT.region ?_
  refine lq (q_fieldAddr Fld_85_0 rfl) rfl ?_
  refine lq (q_load1 T1_9 rfl (fun w1 hw => hw.rgO (i := 3) rfl 0 1 [.string p0.Op] rfl)) rfl ?_
  refine lq (q_seq rfl rfl) rfl ?_
  refine lq (q_assign rfl) rfl ?_
  refine WL.nil ?_
  refine WT.cond rfl (fun c2 => ?_) (fun c2 => ?_)
  · replace h := ite_t h c2
    refine WT.seq ?_
    refine WT.region ?_
    refine lq (q_loadN Tn_79 rfl (fun w1 hw => hw.rgO (i := 1) rfl 0 3 [.int .i64 x1.1.K, .int .i64 x1.1.N, .string x1.1.S] rfl) rfl) rfl ?_
    refine ls (s_store (i := 2) (vs := [.int .i64 x1.1.K, .int .i64 x1.1.N, .string x1.1.S]) (C' := [.int .i64 x1.1.K, .int .i64 x1.1.N, .string x1.1.S]) (O' := [(b_4, .cells #[.int .i64 x2.1.K, .int .i64 x2.1.N, .string x2.1.S] 79 (0, 0)), (b_3, .cells #[.int .i64 x1.1.K, .int .i64 x1.1.N, .string x1.1.S] 79 (0, 0)), (b_2, .cells #[.int .i64 x1.1.K, .int .i64 x1.1.N, .string x1.1.S] 79 (0, 0)), (b_1, .cells #[.string p0.Op, .int .i64 p0.L.K, .string p0.L.S, .int .i64 p0.L.V.K, .int .i64 p0.L.V.N, .string p0.L.V.S, .int .i64 p0.R.K, .string p0.R.S, .int .i64 p0.R.V.K, .int .i64 p0.R.V.N, .string p0.R.V.S] 85 (0, 0))]) Sz_79 rfl rfl rfl rfl rfl rfl ⟨rfl, rfl, rfl, trivial⟩ rfl rfl) rfl ?_
    refine lq (q_assign rfl) rfl ?_
    refine WL.nil ?_
    refine WT.ret Try.func47 (resOk.two (rv_cell Tn_79 rfl (fun w1 hw => hw.rgO (i := 2) rfl 0 3 [.int .i64 x1.1.K, .int .i64 x1.1.N, .string x1.1.S] rfl) rfl) rfl) (fun w1 hw => ?_)
    cases h
    exact post_of_St hw
  replace h := ite_f h c2
  refine WT.seq ?_
  refine WT.region ?_
  refine lq (q_move rfl) rfl ?_
  refine lq (q_not rfl) rfl ?_
  refine lq (q_assign rfl) rfl ?_
  refine WL.nil ?_
  refine WT.cond rfl (fun c3 => ?_) (fun c3 => ?_)
  · replace h := ite_t h c3
    refine WT.seq ?_
    refine WT.region ?_
    refine lq (q_build (vs := []) (C := #[.int .i64 0, .int .i64 0, .string (⟨#[]⟩ : ByteArray)]) Pl_79 Zr_79 rfl (fill_nil)) rfl ?_
    refine ls (s_store (i := 2) (vs := [.int .i64 0, .int .i64 0, .string (⟨#[]⟩ : ByteArray)]) (C' := [.int .i64 0, .int .i64 0, .string (⟨#[]⟩ : ByteArray)]) (O' := [(b_4, .cells #[.int .i64 x2.1.K, .int .i64 x2.1.N, .string x2.1.S] 79 (0, 0)), (b_3, .cells #[.int .i64 x1.1.K, .int .i64 x1.1.N, .string x1.1.S] 79 (0, 0)), (b_2, .cells #[.int .i64 0, .int .i64 0, .string (⟨#[]⟩ : ByteArray)] 79 (0, 0)), (b_1, .cells #[.string p0.Op, .int .i64 p0.L.K, .string p0.L.S, .int .i64 p0.L.V.K, .int .i64 p0.L.V.N, .string p0.L.V.S, .int .i64 p0.R.K, .string p0.R.S, .int .i64 p0.R.V.K, .int .i64 p0.R.V.N, .string p0.R.V.S] 85 (0, 0))]) Sz_79 rfl rfl rfl rfl rfl rfl ⟨rfl, rfl, rfl, trivial⟩ rfl rfl) rfl ?_
    refine lq (q_assign rfl) rfl ?_
    refine WL.nil ?_
    refine WT.ret Try.func47 (resOk.two (rv_cell Tn_79 rfl (fun w1 hw => hw.rgO (i := 2) rfl 0 3 [.int .i64 0, .int .i64 0, .string (⟨#[]⟩ : ByteArray)] rfl) rfl) rfl) (fun w1 hw => ?_)
    cases h
    exact post_of_St hw
  replace h := ite_f h c3
  refine WT.seq ?_
  refine WT.region ?_
  refine lq (q_fieldAddr Fld_85_0 rfl) rfl ?_
  refine lq (q_load1 T1_9 rfl (fun w1 hw => hw.rgO (i := 3) rfl 0 1 [.string p0.Op] rfl)) rfl ?_
  refine lq (q_seq rfl rfl) rfl ?_
  refine lq (q_assign rfl) rfl ?_
  refine WL.nil ?_
  refine WT.cond rfl (fun c4 => ?_) (fun c4 => ?_)
  · replace h := ite_t h c4
    refine WT.seq ?_
    refine WT.region ?_
    refine lq (q_loadN Tn_79 rfl (fun w1 hw => hw.rgO (i := 1) rfl 0 3 [.int .i64 x1.1.K, .int .i64 x1.1.N, .string x1.1.S] rfl) rfl) rfl ?_
    refine lq (q_loadN Tn_79 rfl (fun w1 hw => hw.rgO (i := 0) rfl 0 3 [.int .i64 x2.1.K, .int .i64 x2.1.N, .string x2.1.S] rfl) rfl) rfl ?_
    obtain ⟨x3, hx3, h⟩ := bind_some h
    refine lp (p_call Fun_122 rfl (fun w1 hw => m_s_AddVals_ok hw.fro N x1.1 x2.1 hx3)) rfl ?_
    refine lq (q_extract rfl rfl) rfl ?_
    refine lq (q_extract rfl rfl) rfl ?_
    refine ls (s_store (i := 2) (vs := [.int .i64 x3.1.K, .int .i64 x3.1.N, .string x3.1.S]) (C' := [.int .i64 x3.1.K, .int .i64 x3.1.N, .string x3.1.S]) (O' := [(b_4, .cells #[.int .i64 x2.1.K, .int .i64 x2.1.N, .string x2.1.S] 79 (0, 0)), (b_3, .cells #[.int .i64 x1.1.K, .int .i64 x1.1.N, .string x1.1.S] 79 (0, 0)), (b_2, .cells #[.int .i64 x3.1.K, .int .i64 x3.1.N, .string x3.1.S] 79 (0, 0)), (b_1, .cells #[.string p0.Op, .int .i64 p0.L.K, .string p0.L.S, .int .i64 p0.L.V.K, .int .i64 p0.L.V.N, .string p0.L.V.S, .int .i64 p0.R.K, .string p0.R.S, .int .i64 p0.R.V.K, .int .i64 p0.R.V.N, .string p0.R.V.S] 85 (0, 0))]) Sz_79 rfl rfl rfl rfl rfl rfl ⟨rfl, rfl, rfl, trivial⟩ rfl rfl) rfl ?_
    refine lq (q_assign rfl) rfl ?_
    refine WL.nil ?_
    refine WT.ret Try.func47 (resOk.two (rv_cell Tn_79 rfl (fun w1 hw => hw.rgO (i := 2) rfl 0 3 [.int .i64 x3.1.K, .int .i64 x3.1.N, .string x3.1.S] rfl) rfl) rfl) (fun w1 hw => ?_)
    cases h
    exact post_of_St hw
  replace h := ite_f h c4
  refine WT.seq ?_
  refine WT.region ?_
  refine lq (q_fieldAddr Fld_85_0 rfl) rfl ?_
  refine lq (q_load1 T1_9 rfl (fun w1 hw => hw.rgO (i := 3) rfl 0 1 [.string p0.Op] rfl)) rfl ?_
  refine lq (q_seq rfl rfl) rfl ?_
  refine lq (q_assign rfl) rfl ?_
  refine WL.nil ?_
  refine WT.cond rfl (fun c5 => ?_) (fun c5 => ?_)
  · replace h := ite_t h c5
    refine WT.seq ?_
    refine WT.region ?_
    refine lq (q_loadN Tn_79 rfl (fun w1 hw => hw.rgO (i := 1) rfl 0 3 [.int .i64 x1.1.K, .int .i64 x1.1.N, .string x1.1.S] rfl) rfl) rfl ?_
    refine lq (q_loadN Tn_79 rfl (fun w1 hw => hw.rgO (i := 0) rfl 0 3 [.int .i64 x2.1.K, .int .i64 x2.1.N, .string x2.1.S] rfl) rfl) rfl ?_
    obtain ⟨x4, hx4, h⟩ := bind_some h
    refine lp (p_call Fun_123 rfl (fun w1 hw => m_s_SubVals_ok hw.fro N x1.1 x2.1 hx4)) rfl ?_
    refine lq (q_extract rfl rfl) rfl ?_
    refine lq (q_extract rfl rfl) rfl ?_
    refine ls (s_store (i := 2) (vs := [.int .i64 x4.1.K, .int .i64 x4.1.N, .string x4.1.S]) (C' := [.int .i64 x4.1.K, .int .i64 x4.1.N, .string x4.1.S]) (O' := [(b_4, .cells #[.int .i64 x2.1.K, .int .i64 x2.1.N, .string x2.1.S] 79 (0, 0)), (b_3, .cells #[.int .i64 x1.1.K, .int .i64 x1.1.N, .string x1.1.S] 79 (0, 0)), (b_2, .cells #[.int .i64 x4.1.K, .int .i64 x4.1.N, .string x4.1.S] 79 (0, 0)), (b_1, .cells #[.string p0.Op, .int .i64 p0.L.K, .string p0.L.S, .int .i64 p0.L.V.K, .int .i64 p0.L.V.N, .string p0.L.V.S, .int .i64 p0.R.K, .string p0.R.S, .int .i64 p0.R.V.K, .int .i64 p0.R.V.N, .string p0.R.V.S] 85 (0, 0))]) Sz_79 rfl rfl rfl rfl rfl rfl ⟨rfl, rfl, rfl, trivial⟩ rfl rfl) rfl ?_
    refine lq (q_assign rfl) rfl ?_
    refine WL.nil ?_
    refine WT.ret Try.func47 (resOk.two (rv_cell Tn_79 rfl (fun w1 hw => hw.rgO (i := 2) rfl 0 3 [.int .i64 x4.1.K, .int .i64 x4.1.N, .string x4.1.S] rfl) rfl) rfl) (fun w1 hw => ?_)
    cases h
    exact post_of_St hw
  replace h := ite_f h c5
  refine WT.skip ?_
  refine WT.inBlock ?_
  refine WT.seq ?_
  refine WT.region ?_
  refine lq (q_build (vs := []) (C := #[.int .i64 0, .int .i64 0, .string (⟨#[]⟩ : ByteArray)]) Pl_79 Zr_79 rfl (fill_nil)) rfl ?_
  refine ls (s_store (i := 2) (vs := [.int .i64 0, .int .i64 0, .string (⟨#[]⟩ : ByteArray)]) (C' := [.int .i64 0, .int .i64 0, .string (⟨#[]⟩ : ByteArray)]) (O' := [(b_4, .cells #[.int .i64 x2.1.K, .int .i64 x2.1.N, .string x2.1.S] 79 (0, 0)), (b_3, .cells #[.int .i64 x1.1.K, .int .i64 x1.1.N, .string x1.1.S] 79 (0, 0)), (b_2, .cells #[.int .i64 0, .int .i64 0, .string (⟨#[]⟩ : ByteArray)] 79 (0, 0)), (b_1, .cells #[.string p0.Op, .int .i64 p0.L.K, .string p0.L.S, .int .i64 p0.L.V.K, .int .i64 p0.L.V.N, .string p0.L.V.S, .int .i64 p0.R.K, .string p0.R.S, .int .i64 p0.R.V.K, .int .i64 p0.R.V.N, .string p0.R.V.S] 85 (0, 0))]) Sz_79 rfl rfl rfl rfl rfl rfl ⟨rfl, rfl, rfl, trivial⟩ rfl rfl) rfl ?_
  refine lq (q_assign rfl) rfl ?_
  refine WL.nil ?_
  refine WT.ret Try.func47 (resOk.two (rv_cell Tn_79 rfl (fun w1 hw => hw.rgO (i := 2) rfl 0 3 [.int .i64 0, .int .i64 0, .string (⟨#[]⟩ : ByteArray)] rfl) rfl) rfl) (fun w1 hw => ?_)
  cases h
  exact post_of_St hw
theorem m_s_ComputeAll_ok {Φ : Hp} {w : World} (hΦ : In Φ w) (N : Nat) (p0 : (List TExpr)) (p1 : (List TBind)) {pv0 : Value} {pG0 : List Nat} {pv1 : Value} {pG1 : List Nat} (ph0 : RSl RTExpr 11 Φ pG0 pv0 p0) (ph1 : RSl RTBind 4 Φ pG1 pv1 p1) {r : (List TVal) × Bool} (h : m_s_ComputeAll N p0 p1 = some r) :
    Calls Try.prog 65 [pv0, pv1].toArray w (PostG Φ w [] (fun Φ' Fs v => ∃ (sr_0_0 : Value), v = .tuple #[sr_0_0, .bool r.2] ∧ Fs = [ob sr_0_0] ∧ OSl RTVal 79 3 Φ' [] sr_0_0 r.1)) := by
  refine enter Try.func65 rfl Try.ntmps65 rfl (St.start0 hΦ) ?_
  have pa0 : Old ⟨w, [], Φ⟩ pG0 := Old.mk hΦ ph0.kn (Dj.empty _)
  have pa1 : Old ⟨w, [], Φ⟩ pG1 := Old.mk hΦ ph1.kn (Dj.empty _)
  revert pa0 pa1
  generalize hb0 : (⟨w, [], Φ⟩ : Base) = w0
  intro pa0 pa1
  unfold m_s_ComputeAll at h
  refine WT.seq ?_
  refine WT.region ?_
  refine lq (q_assign rfl) rfl ?_
  refine lq (q_assign rfl) rfl ?_
  refine WL.nil ?_
  refine WT.seq ?_
  refine WT.region ?_
  have rc1 : RC RTVal 3 Φ ([] : List (List Nat)) [] ([] : List TVal) := RC.nil _ _ _
  refine le' (e_lit (vs := []) (C := #[]) RTVal.lasts Sl_38 Zr_79 rfl rfl rfl rfl (fill_made MC_79_0 (fill_nil)) rfl rc1 rfl (by simpa using Kw.nil)) rfl (fun v1 Φ_1 D1 q1 => ?_)
  obtain ⟨fr1, h1⟩ := q1
  replace h1 : OSl RTVal 79 3 Φ_1 [] v1 ([] : List TVal) := by simpa using h1
  replace ph0 := ph0.frame RTExpr.lasts fr1 (Dj.empty _)
  replace ph1 := ph1.frame RTBind.lasts fr1 (Dj.empty _)
  refine lq (q_assign rfl) rfl ?_
  refine WL.nil ?_
  refine WT.seq ?_
  refine WT.seq ?_
  refine WT.region ?_
  refine lq (q_assign rfl) rfl ?_
  refine WL.nil ?_
  refine WT.block ?_
  refine WT.loop ?_
  refine WT.mono (l' := [(0, pv0), (1, pv1), (6, v1), (7, .int .i64 0)]) (S' := St w0 Φ_1 [] [ob v1]) ⟨rfl, rfl, rfl, rfl, trivial⟩ (fun w1 hw => (hw.sel (js := [0]) rfl).selO (js := []) rfl) ?_
  refine loop_ind (σ := Hp × (List TVal) × Value × Int) (fun s => [(0, pv0), (1, pv1), (6, s.2.2.1), (7, .int .i64 s.2.2.2)]) (fun s => St w0 s.1 [] [ob s.2.2.1]) (fun m s => m_s_ComputeAll_l1 N p0 p1 m s.2.1 s.2.2.2 = some r ∧ (OSl RTVal 79 3 s.1 [] s.2.2.1 s.2.1) ∧ (RSl RTExpr 11 s.1 pG0 pv0 p0) ∧ (RSl RTBind 4 s.1 pG1 pv1 p1)) (fun s hm => none_ne (show (none : Option ((List TVal) × Bool)) = some r from hm.1)) (fun n1 ih1 s hm => ?_) N (Φ_1, ([] : List TVal), v1, 0) ⟨h, h1, ph0, ph1⟩
  obtain ⟨Φ_2, s1, u1, s2⟩ := s
  obtain ⟨h, k1, ph0, ph1⟩ := hm
  replace h : m_s_ComputeAll_l1 N p0 p1 (n1 + 1) s1 s2 = some r := h
  replace k1 : OSl RTVal 79 3 Φ_2 [] u1 s1 := k1
  replace ph0 : RSl RTExpr 11 Φ_2 pG0 pv0 p0 := ph0
  replace ph1 : RSl RTBind 4 Φ_2 pG1 pv1 p1 := ph1
  show WT _ _ [(0, pv0), (1, pv1), (6, u1), (7, .int .i64 s2)] (St w0 Φ_2 [] [ob u1])
  unfold m_s_ComputeAll_l1 at h
  refine WT.seq ?_
  refine WT.seq ?_
  refine WT.region ?_
  refine lq (q_move rfl) rfl ?_
  refine lq (q_move rfl) rfl ?_
  refine lq (q_lenR Sl_73 rfl rfl ph0) rfl ?_
  refine lq (q_lss rfl rfl) rfl ?_
  refine WL.nil ?_
  refine WT.cond rfl (fun c1 => ?_) (fun c1 => ?_)
  · replace h := ite_t h c1
    refine WT.skip ?_
    refine WT.seq ?_
    refine WT.block ?_
    refine WT.seq ?_
    refine WT.region ?_
    refine lq (q_move rfl) rfl ?_
    refine lq (q_move rfl) rfl ?_
    obtain ⟨x1, hx1, h⟩ := bind_some h
    obtain ⟨cs1, F1, -, g1, hb1, hs1, r1⟩ := ph0.el (idx_some hx1).2.2
    obtain ⟨rfl, -⟩ := r1
    refine lq (q_indexAddr Sl_73 rfl rfl ph0 hx1) rfl ?_
    refine lq (q_loadN Tn_85 rfl (fun w1 hw => (g1.of_eq 0 11 rfl rfl : rg _ _ _ [.string x1.Op, .int .i64 x1.L.K, .string x1.L.S, .int .i64 x1.L.V.K, .int .i64 x1.L.V.N, .string x1.L.V.S, .int .i64 x1.R.K, .string x1.R.S, .int .i64 x1.R.V.K, .int .i64 x1.R.V.N, .string x1.R.V.S]).rangeAt hw.fro) rfl) rfl ?_
    refine lq (q_move rfl) rfl ?_
    obtain ⟨x2, hx2, h⟩ := bind_some h
    refine lp (p_call Fun_47 rfl (fun w1 hw => m_s_Compute_ok hw.fro N x1 p1 ph1 hx2)) rfl ?_
    refine lq (q_move rfl) rfl ?_
    refine lq (q_extract rfl rfl) rfl ?_
    refine lq (q_extract rfl rfl) rfl ?_
    refine ln (n_alloc (C := #[.int .i64 0, .int .i64 0, .string (⟨#[]⟩ : ByteArray)]) Zr_79 rfl) rfl (fun b_1 => ?_)
    refine ls (s_store (i := 0) (vs := [.int .i64 x2.1.K, .int .i64 x2.1.N, .string x2.1.S]) (C' := [.int .i64 x2.1.K, .int .i64 x2.1.N, .string x2.1.S]) (O' := [(b_1, .cells #[.int .i64 x2.1.K, .int .i64 x2.1.N, .string x2.1.S] 79 (0, 0))]) Sz_79 rfl rfl rfl rfl rfl rfl ⟨rfl, rfl, rfl, trivial⟩ rfl rfl) rfl ?_
    refine lq (q_assign rfl) rfl ?_
    refine WL.nil ?_
    refine WT.seq ?_
    refine WT.seq ?_
    refine WT.region ?_
    refine lq (q_move rfl) rfl ?_
    refine lq (q_not rfl) rfl ?_
    refine WL.nil ?_
    refine WT.cond rfl (fun c2 => ?_) (fun c2 => ?_)
    · replace h := ite_t h c2
      refine WT.seq ?_
      refine WT.region ?_
      have rc2 : RC RTVal 3 Φ_2 ([] : List (List Nat)) [] ([] : List TVal) := RC.nil _ _ _
      refine le' (e_lit (vs := []) (C := #[]) RTVal.lasts Sl_38 Zr_79 rfl rfl rfl rfl (fill_made MC_79_0 (fill_nil)) rfl rc2 rfl (by simpa using Kw.nil)) rfl (fun v2 Φ_3 D2 q2 => ?_)
      obtain ⟨fr2, h2⟩ := q2
      replace h2 : OSl RTVal 79 3 Φ_3 [] v2 ([] : List TVal) := by simpa using h2
      refine lq (q_assign rfl) rfl ?_
      refine lq (q_assign rfl) rfl ?_
      refine WL.nil ?_
      refine WT.ret Try.func65 (resOk.two rfl rfl) (fun w1 hw => ?_)
      subst hb0
      cases h
      refine postG_of_St (js := [0]) hw rfl ⟨v2, rfl, rfl, h2⟩
    replace h := ite_f h c2
    refine WT.skip ?_
    refine WT.region ?_
    refine lq (q_move rfl) rfl ?_
    refine lq (q_loadN Tn_79 rfl (fun w1 hw => hw.rgO (i := 0) rfl 0 3 [.int .i64 x2.1.K, .int .i64 x2.1.N, .string x2.1.S] rfl) rfl) rfl ?_
    have rc3 : RC RTVal 3 Φ_2 ([[]] : List (List Nat)) [.int .i64 x2.1.K, .int .i64 x2.1.N, .string x2.1.S] ([x2.1] : List TVal) := RC.cons (c := [.int .i64 x2.1.K, .int .i64 x2.1.N, .string x2.1.S]) (cells := []) ⟨rfl, rfl⟩ rfl (RC.nil _ _ _)
    refine le' (e_lit (vs := [(0, .agg [.int .i64 x2.1.K, .int .i64 x2.1.N, .string x2.1.S].toArray)]) (C := #[.int .i64 x2.1.K, .int .i64 x2.1.N, .string x2.1.S]) RTVal.lasts Sl_38 Zr_79 rfl rfl rfl rfl (fill_made MC_79_1 (fill_cons (cells := [.int .i64 0, .int .i64 0, .string ⟨#[]⟩]) (c := [.int .i64 x2.1.K, .int .i64 x2.1.N, .string x2.1.S]) (C' := [.int .i64 x2.1.K, .int .i64 x2.1.N, .string x2.1.S]) rfl rfl rfl rfl rfl (fill_nil))) rfl rc3 rfl (by simpa using Kw.nil)) rfl (fun v3 Φ_4 D3 q3 => ?_)
    obtain ⟨fr3, h3⟩ := q3
    replace h3 : OSl RTVal 79 3 Φ_4 [] v3 ([x2.1] : List TVal) := by simpa using h3
    replace ph0 := ph0.frame RTExpr.lasts fr3 (Dj.empty _)
    replace ph1 := ph1.frame RTBind.lasts fr3 (Dj.empty _)
    replace k1 := k1.frame RTVal.lasts fr3 (Dj.empty _) (Dj.empty _)
    obtain ⟨x3, hx3, h⟩ := bind_some h
    refine le' (e_appF RTVal.lasts RTVal.one RTVal.flat Sl_38 Ei_79 rfl rfl rfl rfl rfl (js := [1]) (Rr := [ob v3]) rfl k1 h3.rsl hx3) rfl (fun v4 Φ_5 D4 q4 => ?_)
    obtain ⟨⟨ap1, fr4⟩, h4⟩ := q4
    replace ph0 := ph0.frame RTExpr.lasts fr4 (ap1.o pa0)
    replace ph1 := ph1.frame RTBind.lasts fr4 (ap1.o pa1)
    refine lq (q_assign rfl) rfl ?_
    refine WL.nil ?_
    refine WT.inBlock ?_
    refine WT.region ?_
    refine lq (q_move rfl) rfl ?_
    refine lq (q_add rfl rfl) rfl ?_
    refine lq (q_assign rfl) rfl ?_
    refine WL.nil ?_
    refine WT.inLoop (WT.mono (l' := [(0, pv0), (1, pv1), (6, v4), (7, .int .i64 (IntKind.i64.wrap (s2 + 1)))]) (S' := St w0 Φ_5 [] [ob v4]) ⟨rfl, rfl, rfl, rfl, trivial⟩ (fun w1 hw => (hw.sel (js := [0]) rfl).selO (js := []) rfl) ?_)
    exact ih1 (Φ_5, x3, v4, IntKind.i64.wrap (s2 + 1)) ⟨h, h4, ph0, ph1⟩
  replace h := ite_f h c1
  refine WT.exit rfl ?_
  refine WT.seq ?_
  refine WT.region ?_
  refine lq (q_move rfl) rfl ?_
  refine lq (q_assign rfl) rfl ?_
  refine lq (q_assign rfl) rfl ?_
  refine WL.nil ?_
  refine WT.ret Try.func65 (resOk.two rfl rfl) (fun w1 hw => ?_)
  subst hb0
  cases h
  refine postG_of_St (js := [0]) hw rfl ⟨u1, rfl, rfl, k1⟩
theorem m_l_eqValS_ok {Φ : Hp} {w : World} (hΦ : In Φ w) (N : Nat) (p0 : (List TVal)) (p1 : (List TVal)) {pv0 : Value} {pG0 : List Nat} {pv1 : Value} {pG1 : List Nat} (ph0 : RSl RTVal 3 Φ pG0 pv0 p0) (ph1 : RSl RTVal 3 Φ pG1 pv1 p1) {r : Bool} (h : m_l_eqValS N p0 p1 = some r) :
    Calls Try.prog 68 [pv0, pv1].toArray w (Post (.bool r) w) := by
  refine enter Try.func68 rfl Try.ntmps68 rfl (St.start0 hΦ) ?_
  generalize hb0 : (⟨w, [], Φ⟩ : Base) = w0
  unfold m_l_eqValS at h
  refine WT.seq ?_
  refine WT.region ?_
  refine lq (q_assign rfl) rfl ?_
  refine WL.nil ?_
  refine WT.seq ?_
  refine WT.seq ?_
  refine WT.region ?_
  refine lq (q_move rfl) rfl ?_
  refine lq (q_lenR Sl_38 rfl rfl ph0) rfl ?_
  refine lq (q_move rfl) rfl ?_
  refine lq (q_lenR Sl_38 rfl rfl ph1) rfl ?_
  refine lq (q_neq rfl rfl) rfl ?_
  refine WL.nil ?_
  refine WT.cond rfl (fun c1 => ?_) (fun c1 => ?_)
  · replace h := ite_t h c1
    refine WT.seq ?_
    refine WT.region ?_
    refine lq (q_assign rfl) rfl ?_
    refine WL.nil ?_
    refine WT.ret Try.func68 (resOk.one rfl) (fun w1 hw => ?_)
    subst hb0
    cases h
    exact post_of_St hw
  replace h := ite_f h c1
  refine WT.skip ?_
  refine WT.seq ?_
  refine WT.seq ?_
  refine WT.region ?_
  refine lq (q_assign rfl) rfl ?_
  refine WL.nil ?_
  refine WT.block ?_
  refine WT.loop ?_
  refine WT.mono (l' := [(0, pv0), (1, pv1), (5, .int .i64 0)]) (S' := St w0 Φ [] []) ⟨rfl, rfl, rfl, trivial⟩ (fun w1 hw => (hw.sel (js := []) rfl).selO (js := []) rfl) ?_
  refine loop_ind (σ := Int) (fun s => [(0, pv0), (1, pv1), (5, .int .i64 s)]) (fun s => St w0 Φ [] []) (fun m s => m_l_eqValS_l1 N p0 p1 m s = some r) (fun s hm => none_ne (show (none : Option (Bool)) = some r from hm)) (fun n1 ih1 s hm => ?_) N (0) h
  revert hm; revert s; intro s1 hm
  have h : m_l_eqValS_l1 N p0 p1 (n1 + 1) s1 = some r := hm
  show WT _ _ [(0, pv0), (1, pv1), (5, .int .i64 s1)] (St w0 Φ [] [])
  unfold m_l_eqValS_l1 at h
  refine WT.seq ?_
  refine WT.seq ?_
  refine WT.region ?_
  refine lq (q_move rfl) rfl ?_
  refine lq (q_move rfl) rfl ?_
  refine lq (q_lenR Sl_38 rfl rfl ph0) rfl ?_
  refine lq (q_lss rfl rfl) rfl ?_
  refine WL.nil ?_
  refine WT.cond rfl (fun c2 => ?_) (fun c2 => ?_)
  · replace h := ite_t h c2
    refine WT.skip ?_
    refine WT.seq ?_
    refine WT.block ?_
    refine WT.seq ?_
    refine WT.draw mixed (by kernel_rfl) (fun _ h => h.drew) ?_
    refine qq (q_move rfl) rfl ?_
    refine qq (q_move rfl) rfl ?_
    obtain ⟨x1, hx1, h⟩ := bind_some h
    obtain ⟨cs1, F1, -, g1, hb1, hs1, r1⟩ := ph0.el (idx_some hx1).2.2
    obtain ⟨rfl, -⟩ := r1
    refine qq (q_indexAddr Sl_38 rfl rfl ph0 hx1) rfl ?_
    refine qq (q_loadN Tn_79 rfl (fun w1 hw => (g1.of_eq 0 3 rfl rfl : rg _ _ _ [.int .i64 x1.K, .int .i64 x1.N, .string x1.S]).rangeAt hw.fro) rfl) rfl ?_
    refine qq (q_move rfl) rfl ?_
    refine qq (q_move rfl) rfl ?_
    obtain ⟨x2, hx2, h⟩ := bind_some h
    obtain ⟨cs2, F2, -, g2, hb2, hs2, r2⟩ := ph1.el (idx_some hx2).2.2
    obtain ⟨rfl, -⟩ := r2
    refine qq (q_indexAddr Sl_38 rfl rfl ph1 hx2) rfl ?_
    refine qq (q_loadN Tn_79 rfl (fun w1 hw => (g2.of_eq 0 3 rfl rfl : rg _ _ _ [.int .i64 x2.K, .int .i64 x2.N, .string x2.S]).rangeAt hw.fro) rfl) rfl ?_
    obtain ⟨x3, hx3, h⟩ := bind_some h
    refine qp (p_call Fun_147 rfl (fun w1 hw => m_l_eqVal_ok hw.fro N x1 x2 hx3)) rfl ?_
    refine qq (q_not rfl) rfl ?_
    refine WQ.nil ?_
    refine WT.cond rfl (fun c3 => ?_) (fun c3 => ?_)
    · replace h := ite_t h c3
      refine WT.seq ?_
      refine WT.region ?_
      refine lq (q_assign rfl) rfl ?_
      refine WL.nil ?_
      refine WT.ret Try.func68 (resOk.one rfl) (fun w1 hw => ?_)
      subst hb0
      cases h
      exact post_of_St hw
    replace h := ite_f h c3
    refine WT.skip ?_
    refine WT.inBlock ?_
    refine WT.region ?_
    refine lq (q_move rfl) rfl ?_
    refine lq (q_add rfl rfl) rfl ?_
    refine lq (q_assign rfl) rfl ?_
    refine WL.nil ?_
    refine WT.inLoop (WT.mono (l' := [(0, pv0), (1, pv1), (5, .int .i64 (IntKind.i64.wrap (s1 + 1)))]) (S' := St w0 Φ [] []) ⟨rfl, rfl, rfl, trivial⟩ (fun w1 hw => (hw.sel (js := []) rfl).selO (js := []) rfl) ?_)
    exact ih1 (IntKind.i64.wrap (s1 + 1)) h
  replace h := ite_f h c2
  refine WT.exit rfl ?_
  refine WT.seq ?_
  refine WT.region ?_
  refine lq (q_assign rfl) rfl ?_
  refine WL.nil ?_
  refine WT.ret Try.func68 (resOk.one rfl) (fun w1 hw => ?_)
  subst hb0
  cases h
  exact post_of_St hw
theorem m_l_markExprS_ok {Φ : Hp} {w : World} (hΦ : In Φ w) (N : Nat) (p0 : (List TExpr)) (p1 : Int) {pv0 : Value} (ph0 : OSl RTExpr 85 11 Φ [] pv0 p0) (hB : [ob pv0].flatten.Nodup) (hlt : ∀ k ∈ [ob pv0].flatten, k < w.heap.size) {r : Int × (List TExpr)} (h : m_l_markExprS N p0 p1 = some r) :
    Calls Try.prog 71 [pv0, .int .i64 p1].toArray w (PostG Φ w [ob pv0].flatten (fun Φ' Fs v => v = .int .i64 r.1 ∧ Fs = [ob pv0] ∧ OSl RTExpr 85 11 Φ' [] pv0 r.2)) := by
  refine enter Try.func71 rfl Try.ntmps71 rfl (St.start hΦ [ob pv0] hB hlt) ?_
  generalize hb0 : (⟨w, [ob pv0].flatten, Φ⟩ : Base) = w0
  unfold m_l_markExprS at h
  refine WT.seq ?_
  refine WT.region ?_
  refine lq (q_assign rfl) rfl ?_
  refine WL.nil ?_
  refine WT.seq ?_
  refine WT.seq ?_
  refine WT.region ?_
  refine lq (q_assign rfl) rfl ?_
  refine WL.nil ?_
  refine WT.block ?_
  refine WT.loop ?_
  refine WT.mono (l' := [(0, pv0), (1, .int .i64 p1), (5, .int .i64 0)]) (S' := St w0 Φ [] [ob pv0]) ⟨rfl, rfl, rfl, trivial⟩ (fun w1 hw => (hw.sel (js := [0]) rfl).selO (js := []) rfl) ?_
  refine loop_ind (σ := Hp × (List TExpr) × Int × Int) (fun s => [(0, pv0), (1, .int .i64 s.2.2.1), (5, .int .i64 s.2.2.2)]) (fun s => St w0 s.1 [] [ob pv0]) (fun m s => m_l_markExprS_l1 N m s.2.1 s.2.2.1 s.2.2.2 = some r ∧ (OSl RTExpr 85 11 s.1 [] pv0 s.2.1)) (fun s hm => none_ne (show (none : Option (Int × (List TExpr))) = some r from hm.1)) (fun n1 ih1 s hm => ?_) N (Φ, p0, p1, 0) ⟨h, ph0⟩
  obtain ⟨Φ_1, s1, s2, s3⟩ := s
  obtain ⟨h, k1⟩ := hm
  replace h : m_l_markExprS_l1 N (n1 + 1) s1 s2 s3 = some r := h
  replace k1 : OSl RTExpr 85 11 Φ_1 [] pv0 s1 := k1
  show WT _ _ [(0, pv0), (1, .int .i64 s2), (5, .int .i64 s3)] (St w0 Φ_1 [] [ob pv0])
  unfold m_l_markExprS_l1 at h
  refine WT.seq ?_
  refine WT.seq ?_
  refine WT.region ?_
  refine lq (q_move rfl) rfl ?_
  refine lq (q_move rfl) rfl ?_
  refine lq (q_lenR Sl_73 rfl rfl k1.rsl) rfl ?_
  refine lq (q_lss rfl rfl) rfl ?_
  refine WL.nil ?_
  refine WT.cond rfl (fun c1 => ?_) (fun c1 => ?_)
  · replace h := ite_t h c1
    refine WT.skip ?_
    refine WT.seq ?_
    refine WT.block ?_
    refine WT.seq ?_
    refine WT.region ?_
    refine lq (q_move rfl) rfl ?_
    refine lq (q_move rfl) rfl ?_
    refine lq (q_move rfl) rfl ?_
    obtain ⟨x1, hx1, h⟩ := bind_some h
    refine lp (p_call Fun_150 rfl (fun w1 hw => m_l_markText_ok hw.fro N s2 hx1)) rfl ?_
    obtain ⟨x2, hx2, h⟩ := bind_some h
    obtain ⟨cs1, F1, h1, r1⟩ := k1.focusF RTExpr.flat hx2
    obtain ⟨rfl, -⟩ := r1
    refine lq (q_indexAddrH Sl_73 rfl rfl h1 hx2) rfl ?_
    refine lq (q_fieldAddr Fld_85_0 rfl) rfl ?_
    refine lu (u_setH (js := [0]) (Rr := []) (o := 0) (vs := [.string x1]) (cs' := [.string x1, .int .i64 x2.L.K, .string x2.L.S, .int .i64 x2.L.V.K, .int .i64 x2.L.V.N, .string x2.L.V.S, .int .i64 x2.R.K, .string x2.R.S, .int .i64 x2.R.V.K, .int .i64 x2.R.V.N, .string x2.R.V.S]) RTExpr.lasts Sz_9 rfl rfl rfl rfl ⟨rfl, trivial⟩ rfl h1 rfl rfl (fun ap => (Dj.nil _))) rfl (fun Φ_2 D2 q1 => ?_)
    obtain ⟨⟨ap1, fr1⟩, h2⟩ := q1
    refine WL.nil ?_
    refine WT.seq ?_
    refine WT.region ?_
    refine lq (q_move rfl) rfl ?_
    refine lq (q_add rfl rfl) rfl ?_
    refine lq (q_assign rfl) rfl ?_
    refine WL.nil ?_
    refine WT.seq ?_
    refine WT.region ?_
    refine lq (q_move rfl) rfl ?_
    refine lq (q_move rfl) rfl ?_
    refine lq (q_move rfl) rfl ?_
    refine lq (q_indexAddrH Sl_73 rfl rfl h2 hx2) rfl ?_
    refine lq (q_fieldAddr Fld_85_1 rfl) rfl ?_
    refine lq (q_fieldAddr Fld_83_0 rfl) rfl ?_
    refine lu (u_setH (js := [0]) (Rr := []) (o := 1) (vs := [.int .i64 (IntKind.i64.wrap (s2 + 1))]) (cs' := [.string x1, .int .i64 (IntKind.i64.wrap (s2 + 1)), .string x2.L.S, .int .i64 x2.L.V.K, .int .i64 x2.L.V.N, .string x2.L.V.S, .int .i64 x2.R.K, .string x2.R.S, .int .i64 x2.R.V.K, .int .i64 x2.R.V.N, .string x2.R.V.S]) RTExpr.lasts Sz_3 rfl rfl rfl rfl ⟨rfl, trivial⟩ rfl h2 rfl rfl (fun ap => (Dj.nil _))) rfl (fun Φ_3 D3 q2 => ?_)
    obtain ⟨⟨ap2, fr2⟩, h3⟩ := q2
    refine WL.nil ?_
    refine WT.seq ?_
    refine WT.region ?_
    refine lq (q_move rfl) rfl ?_
    refine lq (q_add rfl rfl) rfl ?_
    refine lq (q_assign rfl) rfl ?_
    refine WL.nil ?_
    refine WT.seq ?_
    refine WT.region ?_
    refine lq (q_move rfl) rfl ?_
    refine lq (q_move rfl) rfl ?_
    refine lq (q_move rfl) rfl ?_
    obtain ⟨x3, hx3, h⟩ := bind_some h
    refine lp (p_call Fun_150 rfl (fun w1 hw => m_l_markText_ok hw.fro N (IntKind.i64.wrap ((IntKind.i64.wrap (s2 + 1)) + 1)) hx3)) rfl ?_
    refine lq (q_indexAddrH Sl_73 rfl rfl h3 hx2) rfl ?_
    refine lq (q_fieldAddr Fld_85_1 rfl) rfl ?_
    refine lq (q_fieldAddr Fld_83_1 rfl) rfl ?_
    refine lu (u_setH (js := [0]) (Rr := []) (o := 2) (vs := [.string x3]) (cs' := [.string x1, .int .i64 (IntKind.i64.wrap (s2 + 1)), .string x3, .int .i64 x2.L.V.K, .int .i64 x2.L.V.N, .string x2.L.V.S, .int .i64 x2.R.K, .string x2.R.S, .int .i64 x2.R.V.K, .int .i64 x2.R.V.N, .string x2.R.V.S]) RTExpr.lasts Sz_9 rfl rfl rfl rfl ⟨rfl, trivial⟩ rfl h3 rfl rfl (fun ap => (Dj.nil _))) rfl (fun Φ_4 D4 q3 => ?_)
    obtain ⟨⟨ap3, fr3⟩, h4⟩ := q3
    refine WL.nil ?_
    refine WT.seq ?_
    refine WT.region ?_
    refine lq (q_move rfl) rfl ?_
    refine lq (q_add rfl rfl) rfl ?_
    refine lq (q_assign rfl) rfl ?_
    refine WL.nil ?_
    refine WT.seq ?_
    refine WT.region ?_
    refine lq (q_move rfl) rfl ?_
    refine lq (q_move rfl) rfl ?_
    refine lq (q_move rfl) rfl ?_
    refine lq (q_indexAddrH Sl_73 rfl rfl h4 hx2) rfl ?_
    refine lq (q_fieldAddr Fld_85_1 rfl) rfl ?_
    refine lq (q_fieldAddr Fld_83_2 rfl) rfl ?_
    refine lq (q_fieldAddr Fld_79_0 rfl) rfl ?_
    refine lu (u_setH (js := [0]) (Rr := []) (o := 3) (vs := [.int .i64 (IntKind.i64.wrap ((IntKind.i64.wrap ((IntKind.i64.wrap (s2 + 1)) + 1)) + 1))]) (cs' := [.string x1, .int .i64 (IntKind.i64.wrap (s2 + 1)), .string x3, .int .i64 (IntKind.i64.wrap ((IntKind.i64.wrap ((IntKind.i64.wrap (s2 + 1)) + 1)) + 1)), .int .i64 x2.L.V.N, .string x2.L.V.S, .int .i64 x2.R.K, .string x2.R.S, .int .i64 x2.R.V.K, .int .i64 x2.R.V.N, .string x2.R.V.S]) RTExpr.lasts Sz_3 rfl rfl rfl rfl ⟨rfl, trivial⟩ rfl h4 rfl rfl (fun ap => (Dj.nil _))) rfl (fun Φ_5 D5 q4 => ?_)
    obtain ⟨⟨ap4, fr4⟩, h5⟩ := q4
    refine WL.nil ?_
    refine WT.seq ?_
    refine WT.region ?_
    refine lq (q_move rfl) rfl ?_
    refine lq (q_add rfl rfl) rfl ?_
    refine lq (q_assign rfl) rfl ?_
    refine WL.nil ?_
    refine WT.seq ?_
    refine WT.region ?_
    refine lq (q_move rfl) rfl ?_
    refine lq (q_move rfl) rfl ?_
    refine lq (q_move rfl) rfl ?_
    refine lq (q_indexAddrH Sl_73 rfl rfl h5 hx2) rfl ?_
    refine lq (q_fieldAddr Fld_85_1 rfl) rfl ?_
    refine lq (q_fieldAddr Fld_83_2 rfl) rfl ?_
    refine lq (q_fieldAddr Fld_79_1 rfl) rfl ?_
    refine lu (u_setH (js := [0]) (Rr := []) (o := 4) (vs := [.int .i64 (IntKind.i64.wrap ((IntKind.i64.wrap ((IntKind.i64.wrap ((IntKind.i64.wrap (s2 + 1)) + 1)) + 1)) + 1))]) (cs' := [.string x1, .int .i64 (IntKind.i64.wrap (s2 + 1)), .string x3, .int .i64 (IntKind.i64.wrap ((IntKind.i64.wrap ((IntKind.i64.wrap (s2 + 1)) + 1)) + 1)), .int .i64 (IntKind.i64.wrap ((IntKind.i64.wrap ((IntKind.i64.wrap ((IntKind.i64.wrap (s2 + 1)) + 1)) + 1)) + 1)), .string x2.L.V.S, .int .i64 x2.R.K, .string x2.R.S, .int .i64 x2.R.V.K, .int .i64 x2.R.V.N, .string x2.R.V.S]) RTExpr.lasts Sz_3 rfl rfl rfl rfl ⟨rfl, trivial⟩ rfl h5 rfl rfl (fun ap => (Dj.nil _))) rfl (fun Φ_6 D6 q5 => ?_)
    obtain ⟨⟨ap5, fr5⟩, h6⟩ := q5
    refine WL.nil ?_
    refine WT.seq ?_
    refine WT.region ?_
    refine lq (q_move rfl) rfl ?_
    refine lq (q_add rfl rfl) rfl ?_
    refine lq (q_assign rfl) rfl ?_
    refine WL.nil ?_
    refine WT.seq ?_
    refine WT.region ?_
    refine lq (q_move rfl) rfl ?_
    refine lq (q_move rfl) rfl ?_
    refine lq (q_move rfl) rfl ?_
    obtain ⟨x4, hx4, h⟩ := bind_some h
    refine lp (p_call Fun_150 rfl (fun w1 hw => m_l_markText_ok hw.fro N (IntKind.i64.wrap ((IntKind.i64.wrap ((IntKind.i64.wrap ((IntKind.i64.wrap ((IntKind.i64.wrap (s2 + 1)) + 1)) + 1)) + 1)) + 1)) hx4)) rfl ?_
    refine lq (q_indexAddrH Sl_73 rfl rfl h6 hx2) rfl ?_
    refine lq (q_fieldAddr Fld_85_1 rfl) rfl ?_
    refine lq (q_fieldAddr Fld_83_2 rfl) rfl ?_
    refine lq (q_fieldAddr Fld_79_2 rfl) rfl ?_
    refine lu (u_setH (js := [0]) (Rr := []) (o := 5) (vs := [.string x4]) (cs' := [.string x1, .int .i64 (IntKind.i64.wrap (s2 + 1)), .string x3, .int .i64 (IntKind.i64.wrap ((IntKind.i64.wrap ((IntKind.i64.wrap (s2 + 1)) + 1)) + 1)), .int .i64 (IntKind.i64.wrap ((IntKind.i64.wrap ((IntKind.i64.wrap ((IntKind.i64.wrap (s2 + 1)) + 1)) + 1)) + 1)), .string x4, .int .i64 x2.R.K, .string x2.R.S, .int .i64 x2.R.V.K, .int .i64 x2.R.V.N, .string x2.R.V.S]) RTExpr.lasts Sz_9 rfl rfl rfl rfl ⟨rfl, trivial⟩ rfl h6 rfl rfl (fun ap => (Dj.nil _))) rfl (fun Φ_7 D7 q6 => ?_)
    obtain ⟨⟨ap6, fr6⟩, h7⟩ := q6
    refine WL.nil ?_
    refine WT.seq ?_
    refine WT.region ?_
    refine lq (q_move rfl) rfl ?_
    refine lq (q_add rfl rfl) rfl ?_
    refine lq (q_assign rfl) rfl ?_
    refine WL.nil ?_
    refine WT.seq ?_
    refine WT.region ?_
    refine lq (q_move rfl) rfl ?_
    refine lq (q_move rfl) rfl ?_
    refine lq (q_move rfl) rfl ?_
    refine lq (q_indexAddrH Sl_73 rfl rfl h7 hx2) rfl ?_
    refine lq (q_fieldAddr Fld_85_2 rfl) rfl ?_
    refine lq (q_fieldAddr Fld_83_0 rfl) rfl ?_
    refine lu (u_setH (js := [0]) (Rr := []) (o := 6) (vs := [.int .i64 (IntKind.i64.wrap ((IntKind.i64.wrap ((IntKind.i64.wrap ((IntKind.i64.wrap ((IntKind.i64.wrap ((IntKind.i64.wrap (s2 + 1)) + 1)) + 1)) + 1)) + 1)) + 1))]) (cs' := [.string x1, .int .i64 (IntKind.i64.wrap (s2 + 1)), .string x3, .int .i64 (IntKind.i64.wrap ((IntKind.i64.wrap ((IntKind.i64.wrap (s2 + 1)) + 1)) + 1)), .int .i64 (IntKind.i64.wrap ((IntKind.i64.wrap ((IntKind.i64.wrap ((IntKind.i64.wrap (s2 + 1)) + 1)) + 1)) + 1)), .string x4, .int .i64 (IntKind.i64.wrap ((IntKind.i64.wrap ((IntKind.i64.wrap ((IntKind.i64.wrap ((IntKind.i64.wrap ((IntKind.i64.wrap (s2 + 1)) + 1)) + 1)) + 1)) + 1)) + 1)), .string x2.R.S, .int .i64 x2.R.V.K, .int .i64 x2.R.V.N, .string x2.R.V.S]) RTExpr.lasts Sz_3 rfl rfl rfl rfl ⟨rfl, trivial⟩ rfl h7 rfl rfl (fun ap => (Dj.nil _))) rfl (fun Φ_8 D8 q7 => ?_)
    obtain ⟨⟨ap7, fr7⟩, h8⟩ := q7
    refine WL.nil ?_
    refine WT.seq ?_
    refine WT.region ?_
    refine lq (q_move rfl) rfl ?_
    refine lq (q_add rfl rfl) rfl ?_
    refine lq (q_assign rfl) rfl ?_
    refine WL.nil ?_
    refine WT.seq ?_
    refine WT.region ?_
    refine lq (q_move rfl) rfl ?_
    refine lq (q_move rfl) rfl ?_
    refine lq (q_move rfl) rfl ?_
    obtain ⟨x5, hx5, h⟩ := bind_some h
    refine lp (p_call Fun_150 rfl (fun w1 hw => m_l_markText_ok hw.fro N (IntKind.i64.wrap ((IntKind.i64.wrap ((IntKind.i64.wrap ((IntKind.i64.wrap ((IntKind.i64.wrap ((IntKind.i64.wrap ((IntKind.i64.wrap (s2 + 1)) + 1)) + 1)) + 1)) + 1)) + 1)) + 1)) hx5)) rfl ?_
    refine lq (q_indexAddrH Sl_73 rfl rfl h8 hx2) rfl ?_
    refine lq (q_fieldAddr Fld_85_2 rfl) rfl ?_
    refine lq (q_fieldAddr Fld_83_1 rfl) rfl ?_
    refine lu (u_setH (js := [0]) (Rr := []) (o := 7) (vs := [.string x5]) (cs' := [.string x1, .int .i64 (IntKind.i64.wrap (s2 + 1)), .string x3, .int .i64 (IntKind.i64.wrap ((IntKind.i64.wrap ((IntKind.i64.wrap (s2 + 1)) + 1)) + 1)), .int .i64 (IntKind.i64.wrap ((IntKind.i64.wrap ((IntKind.i64.wrap ((IntKind.i64.wrap (s2 + 1)) + 1)) + 1)) + 1)), .string x4, .int .i64 (IntKind.i64.wrap ((IntKind.i64.wrap ((IntKind.i64.wrap ((IntKind.i64.wrap ((IntKind.i64.wrap ((IntKind.i64.wrap (s2 + 1)) + 1)) + 1)) + 1)) + 1)) + 1)), .string x5, .int .i64 x2.R.V.K, .int .i64 x2.R.V.N, .string x2.R.V.S]) RTExpr.lasts Sz_9 rfl rfl rfl rfl ⟨rfl, trivial⟩ rfl h8 rfl rfl (fun ap => (Dj.nil _))) rfl (fun Φ_9 D9 q8 => ?_)
    obtain ⟨⟨ap8, fr8⟩, h9⟩ := q8
    refine WL.nil ?_
    refine WT.seq ?_
    refine WT.region ?_
    refine lq (q_move rfl) rfl ?_
    refine lq (q_add rfl rfl) rfl ?_
    refine lq (q_assign rfl) rfl ?_
    refine WL.nil ?_
    refine WT.seq ?_
    refine WT.region ?_
    refine lq (q_move rfl) rfl ?_
    refine lq (q_move rfl) rfl ?_
    refine lq (q_move rfl) rfl ?_
    refine lq (q_indexAddrH Sl_73 rfl rfl h9 hx2) rfl ?_
    refine lq (q_fieldAddr Fld_85_2 rfl) rfl ?_
    refine lq (q_fieldAddr Fld_83_2 rfl) rfl ?_
    refine lq (q_fieldAddr Fld_79_0 rfl) rfl ?_
    refine lu (u_setH (js := [0]) (Rr := []) (o := 8) (vs := [.int .i64 (IntKind.i64.wrap ((IntKind.i64.wrap ((IntKind.i64.wrap ((IntKind.i64.wrap ((IntKind.i64.wrap ((IntKind.i64.wrap ((IntKind.i64.wrap ((IntKind.i64.wrap (s2 + 1)) + 1)) + 1)) + 1)) + 1)) + 1)) + 1)) + 1))]) (cs' := [.string x1, .int .i64 (IntKind.i64.wrap (s2 + 1)), .string x3, .int .i64 (IntKind.i64.wrap ((IntKind.i64.wrap ((IntKind.i64.wrap (s2 + 1)) + 1)) + 1)), .int .i64 (IntKind.i64.wrap ((IntKind.i64.wrap ((IntKind.i64.wrap ((IntKind.i64.wrap (s2 + 1)) + 1)) + 1)) + 1)), .string x4, .int .i64 (IntKind.i64.wrap ((IntKind.i64.wrap ((IntKind.i64.wrap ((IntKind.i64.wrap ((IntKind.i64.wrap ((IntKind.i64.wrap (s2 + 1)) + 1)) + 1)) + 1)) + 1)) + 1)), .string x5, .int .i64 (IntKind.i64.wrap ((IntKind.i64.wrap ((IntKind.i64.wrap ((IntKind.i64.wrap ((IntKind.i64.wrap ((IntKind.i64.wrap ((IntKind.i64.wrap ((IntKind.i64.wrap (s2 + 1)) + 1)) + 1)) + 1)) + 1)) + 1)) + 1)) + 1)), .int .i64 x2.R.V.N, .string x2.R.V.S]) RTExpr.lasts Sz_3 rfl rfl rfl rfl ⟨rfl, trivial⟩ rfl h9 rfl rfl (fun ap => (Dj.nil _))) rfl (fun Φ_10 D10 q9 => ?_)
    obtain ⟨⟨ap9, fr9⟩, h10⟩ := q9
    refine WL.nil ?_
    refine WT.seq ?_
    refine WT.region ?_
    refine lq (q_move rfl) rfl ?_
    refine lq (q_add rfl rfl) rfl ?_
    refine lq (q_assign rfl) rfl ?_
    refine WL.nil ?_
    refine WT.seq ?_
    refine WT.region ?_
    refine lq (q_move rfl) rfl ?_
    refine lq (q_move rfl) rfl ?_
    refine lq (q_move rfl) rfl ?_
    refine lq (q_indexAddrH Sl_73 rfl rfl h10 hx2) rfl ?_
    refine lq (q_fieldAddr Fld_85_2 rfl) rfl ?_
    refine lq (q_fieldAddr Fld_83_2 rfl) rfl ?_
    refine lq (q_fieldAddr Fld_79_1 rfl) rfl ?_
    refine lu (u_setH (js := [0]) (Rr := []) (o := 9) (vs := [.int .i64 (IntKind.i64.wrap ((IntKind.i64.wrap ((IntKind.i64.wrap ((IntKind.i64.wrap ((IntKind.i64.wrap ((IntKind.i64.wrap ((IntKind.i64.wrap ((IntKind.i64.wrap ((IntKind.i64.wrap (s2 + 1)) + 1)) + 1)) + 1)) + 1)) + 1)) + 1)) + 1)) + 1))]) (cs' := [.string x1, .int .i64 (IntKind.i64.wrap (s2 + 1)), .string x3, .int .i64 (IntKind.i64.wrap ((IntKind.i64.wrap ((IntKind.i64.wrap (s2 + 1)) + 1)) + 1)), .int .i64 (IntKind.i64.wrap ((IntKind.i64.wrap ((IntKind.i64.wrap ((IntKind.i64.wrap (s2 + 1)) + 1)) + 1)) + 1)), .string x4, .int .i64 (IntKind.i64.wrap ((IntKind.i64.wrap ((IntKind.i64.wrap ((IntKind.i64.wrap ((IntKind.i64.wrap ((IntKind.i64.wrap (s2 + 1)) + 1)) + 1)) + 1)) + 1)) + 1)), .string x5, .int .i64 (IntKind.i64.wrap ((IntKind.i64.wrap ((IntKind.i64.wrap ((IntKind.i64.wrap ((IntKind.i64.wrap ((IntKind.i64.wrap ((IntKind.i64.wrap ((IntKind.i64.wrap (s2 + 1)) + 1)) + 1)) + 1)) + 1)) + 1)) + 1)) + 1)), .int .i64 (IntKind.i64.wrap ((IntKind.i64.wrap ((IntKind.i64.wrap ((IntKind.i64.wrap ((IntKind.i64.wrap ((IntKind.i64.wrap ((IntKind.i64.wrap ((IntKind.i64.wrap ((IntKind.i64.wrap (s2 + 1)) + 1)) + 1)) + 1)) + 1)) + 1)) + 1)) + 1)) + 1)), .string x2.R.V.S]) RTExpr.lasts Sz_3 rfl rfl rfl rfl ⟨rfl, trivial⟩ rfl h10 rfl rfl (fun ap => (Dj.nil _))) rfl (fun Φ_11 D11 q10 => ?_)
    obtain ⟨⟨ap10, fr10⟩, h11⟩ := q10
    refine WL.nil ?_
    refine WT.seq ?_
    refine WT.region ?_
    refine lq (q_move rfl) rfl ?_
    refine lq (q_add rfl rfl) rfl ?_
    refine lq (q_assign rfl) rfl ?_
    refine WL.nil ?_
    refine WT.seq ?_
    refine WT.region ?_
    refine lq (q_move rfl) rfl ?_
    refine lq (q_move rfl) rfl ?_
    refine lq (q_move rfl) rfl ?_
    obtain ⟨x6, hx6, h⟩ := bind_some h
    refine lp (p_call Fun_150 rfl (fun w1 hw => m_l_markText_ok hw.fro N (IntKind.i64.wrap ((IntKind.i64.wrap ((IntKind.i64.wrap ((IntKind.i64.wrap ((IntKind.i64.wrap ((IntKind.i64.wrap ((IntKind.i64.wrap ((IntKind.i64.wrap ((IntKind.i64.wrap ((IntKind.i64.wrap (s2 + 1)) + 1)) + 1)) + 1)) + 1)) + 1)) + 1)) + 1)) + 1)) + 1)) hx6)) rfl ?_
    refine lq (q_indexAddrH Sl_73 rfl rfl h11 hx2) rfl ?_
    refine lq (q_fieldAddr Fld_85_2 rfl) rfl ?_
    refine lq (q_fieldAddr Fld_83_2 rfl) rfl ?_
    refine lq (q_fieldAddr Fld_79_2 rfl) rfl ?_
    refine lu (u_setH (js := [0]) (Rr := []) (o := 10) (vs := [.string x6]) (cs' := [.string x1, .int .i64 (IntKind.i64.wrap (s2 + 1)), .string x3, .int .i64 (IntKind.i64.wrap ((IntKind.i64.wrap ((IntKind.i64.wrap (s2 + 1)) + 1)) + 1)), .int .i64 (IntKind.i64.wrap ((IntKind.i64.wrap ((IntKind.i64.wrap ((IntKind.i64.wrap (s2 + 1)) + 1)) + 1)) + 1)), .string x4, .int .i64 (IntKind.i64.wrap ((IntKind.i64.wrap ((IntKind.i64.wrap ((IntKind.i64.wrap ((IntKind.i64.wrap ((IntKind.i64.wrap (s2 + 1)) + 1)) + 1)) + 1)) + 1)) + 1)), .string x5, .int .i64 (IntKind.i64.wrap ((IntKind.i64.wrap ((IntKind.i64.wrap ((IntKind.i64.wrap ((IntKind.i64.wrap ((IntKind.i64.wrap ((IntKind.i64.wrap ((IntKind.i64.wrap (s2 + 1)) + 1)) + 1)) + 1)) + 1)) + 1)) + 1)) + 1)), .int .i64 (IntKind.i64.wrap ((IntKind.i64.wrap ((IntKind.i64.wrap ((IntKind.i64.wrap ((IntKind.i64.wrap ((IntKind.i64.wrap ((IntKind.i64.wrap ((IntKind.i64.wrap ((IntKind.i64.wrap (s2 + 1)) + 1)) + 1)) + 1)) + 1)) + 1)) + 1)) + 1)) + 1)), .string x6]) RTExpr.lasts Sz_9 rfl rfl rfl rfl ⟨rfl, trivial⟩ rfl h11 rfl rfl (fun ap => (Dj.nil _))) rfl (fun Φ_12 D12 q11 => ?_)
    obtain ⟨⟨ap11, fr11⟩, h12⟩ := q11
    refine WL.nil ?_
    refine WT.region ?_
    refine lq (q_move rfl) rfl ?_
    refine lq (q_add rfl rfl) rfl ?_
    refine lq (q_assign rfl) rfl ?_
    refine WL.nil ?_
    refine WT.inBlock ?_
    refine WT.region ?_
    refine lq (q_move rfl) rfl ?_
    refine lq (q_add rfl rfl) rfl ?_
    refine lq (q_assign rfl) rfl ?_
    refine WL.nil ?_
    have h13 := h12.unfocusF RTExpr.flat (cs := [.string x1, .int .i64 (IntKind.i64.wrap (s2 + 1)), .string x3, .int .i64 (IntKind.i64.wrap ((IntKind.i64.wrap ((IntKind.i64.wrap (s2 + 1)) + 1)) + 1)), .int .i64 (IntKind.i64.wrap ((IntKind.i64.wrap ((IntKind.i64.wrap ((IntKind.i64.wrap (s2 + 1)) + 1)) + 1)) + 1)), .string x4, .int .i64 (IntKind.i64.wrap ((IntKind.i64.wrap ((IntKind.i64.wrap ((IntKind.i64.wrap ((IntKind.i64.wrap ((IntKind.i64.wrap (s2 + 1)) + 1)) + 1)) + 1)) + 1)) + 1)), .string x5, .int .i64 (IntKind.i64.wrap ((IntKind.i64.wrap ((IntKind.i64.wrap ((IntKind.i64.wrap ((IntKind.i64.wrap ((IntKind.i64.wrap ((IntKind.i64.wrap ((IntKind.i64.wrap (s2 + 1)) + 1)) + 1)) + 1)) + 1)) + 1)) + 1)) + 1)), .int .i64 (IntKind.i64.wrap ((IntKind.i64.wrap ((IntKind.i64.wrap ((IntKind.i64.wrap ((IntKind.i64.wrap ((IntKind.i64.wrap ((IntKind.i64.wrap ((IntKind.i64.wrap ((IntKind.i64.wrap (s2 + 1)) + 1)) + 1)) + 1)) + 1)) + 1)) + 1)) + 1)) + 1)), .string x6]) (x' := (⟨x1, (⟨IntKind.i64.wrap (s2 + 1), x3, (⟨IntKind.i64.wrap ((IntKind.i64.wrap ((IntKind.i64.wrap (s2 + 1)) + 1)) + 1), IntKind.i64.wrap ((IntKind.i64.wrap ((IntKind.i64.wrap ((IntKind.i64.wrap (s2 + 1)) + 1)) + 1)) + 1), x4⟩ : TVal)⟩ : TArg), (⟨IntKind.i64.wrap ((IntKind.i64.wrap ((IntKind.i64.wrap ((IntKind.i64.wrap ((IntKind.i64.wrap ((IntKind.i64.wrap (s2 + 1)) + 1)) + 1)) + 1)) + 1)) + 1), x5, (⟨IntKind.i64.wrap ((IntKind.i64.wrap ((IntKind.i64.wrap ((IntKind.i64.wrap ((IntKind.i64.wrap ((IntKind.i64.wrap ((IntKind.i64.wrap ((IntKind.i64.wrap (s2 + 1)) + 1)) + 1)) + 1)) + 1)) + 1)) + 1)) + 1), IntKind.i64.wrap ((IntKind.i64.wrap ((IntKind.i64.wrap ((IntKind.i64.wrap ((IntKind.i64.wrap ((IntKind.i64.wrap ((IntKind.i64.wrap ((IntKind.i64.wrap ((IntKind.i64.wrap (s2 + 1)) + 1)) + 1)) + 1)) + 1)) + 1)) + 1)) + 1)) + 1), x6⟩ : TVal)⟩ : TArg)⟩ : TExpr)) ⟨rfl, rfl⟩
    refine WT.inLoop (WT.mono (l' := [(0, pv0), (1, .int .i64 (IntKind.i64.wrap ((IntKind.i64.wrap ((IntKind.i64.wrap ((IntKind.i64.wrap ((IntKind.i64.wrap ((IntKind.i64.wrap ((IntKind.i64.wrap ((IntKind.i64.wrap ((IntKind.i64.wrap ((IntKind.i64.wrap ((IntKind.i64.wrap (s2 + 1)) + 1)) + 1)) + 1)) + 1)) + 1)) + 1)) + 1)) + 1)) + 1)) + 1))), (5, .int .i64 (IntKind.i64.wrap (s3 + 1)))]) (S' := St w0 Φ_12 [] [ob pv0]) ⟨rfl, rfl, rfl, trivial⟩ (fun w1 hw => (hw.sel (js := [0]) rfl).selO (js := []) rfl) ?_)
    exact ih1 (Φ_12, (s1.set s3.toNat (⟨x1, (⟨IntKind.i64.wrap (s2 + 1), x3, (⟨IntKind.i64.wrap ((IntKind.i64.wrap ((IntKind.i64.wrap (s2 + 1)) + 1)) + 1), IntKind.i64.wrap ((IntKind.i64.wrap ((IntKind.i64.wrap ((IntKind.i64.wrap (s2 + 1)) + 1)) + 1)) + 1), x4⟩ : TVal)⟩ : TArg), (⟨IntKind.i64.wrap ((IntKind.i64.wrap ((IntKind.i64.wrap ((IntKind.i64.wrap ((IntKind.i64.wrap ((IntKind.i64.wrap (s2 + 1)) + 1)) + 1)) + 1)) + 1)) + 1), x5, (⟨IntKind.i64.wrap ((IntKind.i64.wrap ((IntKind.i64.wrap ((IntKind.i64.wrap ((IntKind.i64.wrap ((IntKind.i64.wrap ((IntKind.i64.wrap ((IntKind.i64.wrap (s2 + 1)) + 1)) + 1)) + 1)) + 1)) + 1)) + 1)) + 1), IntKind.i64.wrap ((IntKind.i64.wrap ((IntKind.i64.wrap ((IntKind.i64.wrap ((IntKind.i64.wrap ((IntKind.i64.wrap ((IntKind.i64.wrap ((IntKind.i64.wrap ((IntKind.i64.wrap (s2 + 1)) + 1)) + 1)) + 1)) + 1)) + 1)) + 1)) + 1)) + 1), x6⟩ : TVal)⟩ : TArg)⟩ : TExpr)), IntKind.i64.wrap ((IntKind.i64.wrap ((IntKind.i64.wrap ((IntKind.i64.wrap ((IntKind.i64.wrap ((IntKind.i64.wrap ((IntKind.i64.wrap ((IntKind.i64.wrap ((IntKind.i64.wrap ((IntKind.i64.wrap ((IntKind.i64.wrap (s2 + 1)) + 1)) + 1)) + 1)) + 1)) + 1)) + 1)) + 1)) + 1)) + 1)) + 1), IntKind.i64.wrap (s3 + 1)) ⟨h, h13⟩
  replace h := ite_f h c1
  refine WT.exit rfl ?_
  refine WT.seq ?_
  refine WT.region ?_
  refine lq (q_move rfl) rfl ?_
  refine lq (q_assign rfl) rfl ?_
  refine WL.nil ?_
  refine WT.ret Try.func71 (resOk.one rfl) (fun w1 hw => ?_)
  subst hb0
  cases h
  refine postG_of_St (js := [0]) hw rfl ⟨rfl, rfl, k1⟩
theorem m_l_markValS_ok {Φ : Hp} {w : World} (hΦ : In Φ w) (N : Nat) (p0 : (List TVal)) (p1 : Int) {pv0 : Value} (ph0 : OSl RTVal 79 3 Φ [] pv0 p0) (hB : [ob pv0].flatten.Nodup) (hlt : ∀ k ∈ [ob pv0].flatten, k < w.heap.size) {r : Int × (List TVal)} (h : m_l_markValS N p0 p1 = some r) :
    Calls Try.prog 73 [pv0, .int .i64 p1].toArray w (PostG Φ w [ob pv0].flatten (fun Φ' Fs v => v = .int .i64 r.1 ∧ Fs = [ob pv0] ∧ OSl RTVal 79 3 Φ' [] pv0 r.2)) := by
  refine enter Try.func73 rfl Try.ntmps73 rfl (St.start hΦ [ob pv0] hB hlt) ?_
  generalize hb0 : (⟨w, [ob pv0].flatten, Φ⟩ : Base) = w0
  unfold m_l_markValS at h
  refine WT.seq ?_
  refine WT.region ?_
  refine lq (q_assign rfl) rfl ?_
  refine WL.nil ?_
  refine WT.seq ?_
  refine WT.seq ?_
  refine WT.region ?_
  refine lq (q_assign rfl) rfl ?_
  refine WL.nil ?_
  refine WT.block ?_
  refine WT.loop ?_
  refine WT.mono (l' := [(0, pv0), (1, .int .i64 p1), (5, .int .i64 0)]) (S' := St w0 Φ [] [ob pv0]) ⟨rfl, rfl, rfl, trivial⟩ (fun w1 hw => (hw.sel (js := [0]) rfl).selO (js := []) rfl) ?_
  refine loop_ind (σ := Hp × (List TVal) × Int × Int) (fun s => [(0, pv0), (1, .int .i64 s.2.2.1), (5, .int .i64 s.2.2.2)]) (fun s => St w0 s.1 [] [ob pv0]) (fun m s => m_l_markValS_l1 N m s.2.1 s.2.2.1 s.2.2.2 = some r ∧ (OSl RTVal 79 3 s.1 [] pv0 s.2.1)) (fun s hm => none_ne (show (none : Option (Int × (List TVal))) = some r from hm.1)) (fun n1 ih1 s hm => ?_) N (Φ, p0, p1, 0) ⟨h, ph0⟩
  obtain ⟨Φ_1, s1, s2, s3⟩ := s
  obtain ⟨h, k1⟩ := hm
  replace h : m_l_markValS_l1 N (n1 + 1) s1 s2 s3 = some r := h
  replace k1 : OSl RTVal 79 3 Φ_1 [] pv0 s1 := k1
  show WT _ _ [(0, pv0), (1, .int .i64 s2), (5, .int .i64 s3)] (St w0 Φ_1 [] [ob pv0])
  unfold m_l_markValS_l1 at h
  refine WT.seq ?_
  refine WT.seq ?_
  refine WT.region ?_
  refine lq (q_move rfl) rfl ?_
  refine lq (q_move rfl) rfl ?_
  refine lq (q_lenR Sl_38 rfl rfl k1.rsl) rfl ?_
  refine lq (q_lss rfl rfl) rfl ?_
  refine WL.nil ?_
  refine WT.cond rfl (fun c1 => ?_) (fun c1 => ?_)
  · replace h := ite_t h c1
    refine WT.skip ?_
    refine WT.seq ?_
    refine WT.block ?_
    refine WT.seq ?_
    refine WT.region ?_
    refine lq (q_move rfl) rfl ?_
    refine lq (q_move rfl) rfl ?_
    refine lq (q_move rfl) rfl ?_
    obtain ⟨x1, hx1, h⟩ := bind_some h
    obtain ⟨cs1, F1, h1, r1⟩ := k1.focusF RTVal.flat hx1
    obtain ⟨rfl, -⟩ := r1
    refine lq (q_indexAddrH Sl_38 rfl rfl h1 hx1) rfl ?_
    refine lq (q_fieldAddr Fld_79_0 rfl) rfl ?_
    refine lu (u_setH (js := [0]) (Rr := []) (o := 0) (vs := [.int .i64 s2]) (cs' := [.int .i64 s2, .int .i64 x1.N, .string x1.S]) RTVal.lasts Sz_3 rfl rfl rfl rfl ⟨rfl, trivial⟩ rfl h1 rfl rfl (fun ap => (Dj.nil _))) rfl (fun Φ_2 D2 q1 => ?_)
    obtain ⟨⟨ap1, fr1⟩, h2⟩ := q1
    refine WL.nil ?_
    refine WT.seq ?_
    refine WT.region ?_
    refine lq (q_move rfl) rfl ?_
    refine lq (q_add rfl rfl) rfl ?_
    refine lq (q_assign rfl) rfl ?_
    refine WL.nil ?_
    refine WT.seq ?_
    refine WT.region ?_
    refine lq (q_move rfl) rfl ?_
    refine lq (q_move rfl) rfl ?_
    refine lq (q_move rfl) rfl ?_
    refine lq (q_indexAddrH Sl_38 rfl rfl h2 hx1) rfl ?_
    refine lq (q_fieldAddr Fld_79_1 rfl) rfl ?_
    refine lu (u_setH (js := [0]) (Rr := []) (o := 1) (vs := [.int .i64 (IntKind.i64.wrap (s2 + 1))]) (cs' := [.int .i64 s2, .int .i64 (IntKind.i64.wrap (s2 + 1)), .string x1.S]) RTVal.lasts Sz_3 rfl rfl rfl rfl ⟨rfl, trivial⟩ rfl h2 rfl rfl (fun ap => (Dj.nil _))) rfl (fun Φ_3 D3 q2 => ?_)
    obtain ⟨⟨ap2, fr2⟩, h3⟩ := q2
    refine WL.nil ?_
    refine WT.seq ?_
    refine WT.region ?_
    refine lq (q_move rfl) rfl ?_
    refine lq (q_add rfl rfl) rfl ?_
    refine lq (q_assign rfl) rfl ?_
    refine WL.nil ?_
    refine WT.seq ?_
    refine WT.region ?_
    refine lq (q_move rfl) rfl ?_
    refine lq (q_move rfl) rfl ?_
    refine lq (q_move rfl) rfl ?_
    obtain ⟨x2, hx2, h⟩ := bind_some h
    refine lp (p_call Fun_150 rfl (fun w1 hw => m_l_markText_ok hw.fro N (IntKind.i64.wrap ((IntKind.i64.wrap (s2 + 1)) + 1)) hx2)) rfl ?_
    refine lq (q_indexAddrH Sl_38 rfl rfl h3 hx1) rfl ?_
    refine lq (q_fieldAddr Fld_79_2 rfl) rfl ?_
    refine lu (u_setH (js := [0]) (Rr := []) (o := 2) (vs := [.string x2]) (cs' := [.int .i64 s2, .int .i64 (IntKind.i64.wrap (s2 + 1)), .string x2]) RTVal.lasts Sz_9 rfl rfl rfl rfl ⟨rfl, trivial⟩ rfl h3 rfl rfl (fun ap => (Dj.nil _))) rfl (fun Φ_4 D4 q3 => ?_)
    obtain ⟨⟨ap3, fr3⟩, h4⟩ := q3
    refine WL.nil ?_
    refine WT.region ?_
    refine lq (q_move rfl) rfl ?_
    refine lq (q_add rfl rfl) rfl ?_
    refine lq (q_assign rfl) rfl ?_
    refine WL.nil ?_
    refine WT.inBlock ?_
    refine WT.region ?_
    refine lq (q_move rfl) rfl ?_
    refine lq (q_add rfl rfl) rfl ?_
    refine lq (q_assign rfl) rfl ?_
    refine WL.nil ?_
    have h5 := h4.unfocusF RTVal.flat (cs := [.int .i64 s2, .int .i64 (IntKind.i64.wrap (s2 + 1)), .string x2]) (x' := (⟨s2, IntKind.i64.wrap (s2 + 1), x2⟩ : TVal)) ⟨rfl, rfl⟩
    refine WT.inLoop (WT.mono (l' := [(0, pv0), (1, .int .i64 (IntKind.i64.wrap ((IntKind.i64.wrap ((IntKind.i64.wrap (s2 + 1)) + 1)) + 1))), (5, .int .i64 (IntKind.i64.wrap (s3 + 1)))]) (S' := St w0 Φ_4 [] [ob pv0]) ⟨rfl, rfl, rfl, trivial⟩ (fun w1 hw => (hw.sel (js := [0]) rfl).selO (js := []) rfl) ?_)
    exact ih1 (Φ_4, (s1.set s3.toNat (⟨s2, IntKind.i64.wrap (s2 + 1), x2⟩ : TVal)), IntKind.i64.wrap ((IntKind.i64.wrap ((IntKind.i64.wrap (s2 + 1)) + 1)) + 1), IntKind.i64.wrap (s3 + 1)) ⟨h, h5⟩
  replace h := ite_f h c1
  refine WT.exit rfl ?_
  refine WT.seq ?_
  refine WT.region ?_
  refine lq (q_move rfl) rfl ?_
  refine lq (q_assign rfl) rfl ?_
  refine WL.nil ?_
  refine WT.ret Try.func73 (resOk.one rfl) (fun w1 hw => ?_)
  subst hb0
  cases h
  refine postG_of_St (js := [0]) hw rfl ⟨rfl, rfl, k1⟩
theorem m_l_heldValS_ok {Φ : Hp} {w : World} (hΦ : In Φ w) (N : Nat) (p0 : (List TVal)) (p1 : Int) {pv0 : Value} {pG0 : List Nat} (ph0 : RSl RTVal 3 Φ pG0 pv0 p0) {r : Int} (h : m_l_heldValS N p0 p1 = some r) :
    Calls Try.prog 74 [pv0, .int .i64 p1].toArray w (Post (.int .i64 r) w) := by
  refine enter Try.func74 rfl Try.ntmps74 rfl (St.start0 hΦ) ?_
  generalize hb0 : (⟨w, [], Φ⟩ : Base) = w0
  unfold m_l_heldValS at h
  refine WT.seq ?_
  refine WT.region ?_
  refine lq (q_assign rfl) rfl ?_
  refine WL.nil ?_
  refine WT.seq ?_
  refine WT.seq ?_
  refine WT.region ?_
  refine lq (q_assign rfl) rfl ?_
  refine WL.nil ?_
  refine WT.block ?_
  refine WT.loop ?_
  refine WT.mono (l' := [(0, pv0), (1, .int .i64 p1), (5, .int .i64 0)]) (S' := St w0 Φ [] []) ⟨rfl, rfl, rfl, trivial⟩ (fun w1 hw => (hw.sel (js := []) rfl).selO (js := []) rfl) ?_
  refine loop_ind (σ := Int × Int) (fun s => [(0, pv0), (1, .int .i64 s.1), (5, .int .i64 s.2)]) (fun s => St w0 Φ [] []) (fun m s => m_l_heldValS_l1 N p0 m s.1 s.2 = some r) (fun s hm => none_ne (show (none : Option (Int)) = some r from hm)) (fun n1 ih1 s hm => ?_) N (p1, 0) h
  obtain ⟨s1, s2⟩ := s
  have h : m_l_heldValS_l1 N p0 (n1 + 1) s1 s2 = some r := hm
  show WT _ _ [(0, pv0), (1, .int .i64 s1), (5, .int .i64 s2)] (St w0 Φ [] [])
  unfold m_l_heldValS_l1 at h
  refine WT.seq ?_
  refine WT.seq ?_
  refine WT.region ?_
  refine lq (q_move rfl) rfl ?_
  refine lq (q_move rfl) rfl ?_
  refine lq (q_lenR Sl_38 rfl rfl ph0) rfl ?_
  refine lq (q_lss rfl rfl) rfl ?_
  refine WL.nil ?_
  refine WT.cond rfl (fun c1 => ?_) (fun c1 => ?_)
  · replace h := ite_t h c1
    refine WT.skip ?_
    refine WT.seq ?_
    refine WT.block ?_
    refine WT.seq ?_
    refine WT.seq ?_
    refine WT.region ?_
    refine lq (q_move rfl) rfl ?_
    refine lq (q_move rfl) rfl ?_
    obtain ⟨x1, hx1, h⟩ := bind_some h
    obtain ⟨cs1, F1, -, g1, hb1, hs1, r1⟩ := ph0.el (idx_some hx1).2.2
    obtain ⟨rfl, -⟩ := r1
    refine lq (q_indexAddr Sl_38 rfl rfl ph0 hx1) rfl ?_
    refine lq (q_fieldAddr Fld_79_0 rfl) rfl ?_
    refine lq (q_load1 T1_3 rfl (fun w1 hw => (g1.of_eq 0 1 rfl rfl : rg _ _ _ [.int .i64 x1.K]).rangeAt hw.fro)) rfl ?_
    refine lq (q_move rfl) rfl ?_
    refine lq (q_neq rfl rfl) rfl ?_
    refine WL.nil ?_
    refine WT.cond rfl (fun c2 => ?_) (fun c2 => ?_)
    · replace h := ite_t h c2
      refine WT.seq ?_
      refine WT.region ?_
      refine lq (q_assign rfl) rfl ?_
      refine WL.nil ?_
      refine WT.ret Try.func74 (resOk.one rfl) (fun w1 hw => ?_)
      subst hb0
      cases h
      exact post_of_St hw
    replace h := ite_f h c2
    refine WT.skip ?_
    refine WT.seq ?_
    refine WT.region ?_
    refine lq (q_move rfl) rfl ?_
    refine lq (q_add rfl rfl) rfl ?_
    refine lq (q_assign rfl) rfl ?_
    refine WL.nil ?_
    refine WT.seq ?_
    refine WT.seq ?_
    refine WT.region ?_
    refine lq (q_move rfl) rfl ?_
    refine lq (q_move rfl) rfl ?_
    obtain ⟨x2, hx2, h⟩ := bind_some h
    obtain ⟨cs2, F2, -, g2, hb2, hs2, r2⟩ := ph0.el (idx_some hx2).2.2
    obtain ⟨rfl, -⟩ := r2
    refine lq (q_indexAddr Sl_38 rfl rfl ph0 hx2) rfl ?_
    refine lq (q_fieldAddr Fld_79_1 rfl) rfl ?_
    refine lq (q_load1 T1_3 rfl (fun w1 hw => (g2.of_eq 1 1 rfl rfl : rg _ _ _ [.int .i64 x2.N]).rangeAt hw.fro)) rfl ?_
    refine lq (q_move rfl) rfl ?_
    refine lq (q_neq rfl rfl) rfl ?_
    refine WL.nil ?_
    refine WT.cond rfl (fun c3 => ?_) (fun c3 => ?_)
    · replace h := ite_t h c3
      refine WT.seq ?_
      refine WT.region ?_
      refine lq (q_assign rfl) rfl ?_
      refine WL.nil ?_
      refine WT.ret Try.func74 (resOk.one rfl) (fun w1 hw => ?_)
      subst hb0
      cases h
      exact post_of_St hw
    replace h := ite_f h c3
    refine WT.skip ?_
    refine WT.seq ?_
    refine WT.region ?_
    refine lq (q_move rfl) rfl ?_
    refine lq (q_add rfl rfl) rfl ?_
    refine lq (q_assign rfl) rfl ?_
    refine WL.nil ?_
    refine WT.seq ?_
    refine WT.seq ?_
    refine WT.draw mixed (by kernel_rfl) (fun _ h => h.drew) ?_
    refine qq (q_move rfl) rfl ?_
    refine qq (q_move rfl) rfl ?_
    obtain ⟨x3, hx3, h⟩ := bind_some h
    obtain ⟨cs3, F3, -, g3, hb3, hs3, r3⟩ := ph0.el (idx_some hx3).2.2
    obtain ⟨rfl, -⟩ := r3
    refine qq (q_indexAddr Sl_38 rfl rfl ph0 hx3) rfl ?_
    refine qq (q_fieldAddr Fld_79_2 rfl) rfl ?_
    refine qq (q_load1 T1_9 rfl (fun w1 hw => (g3.of_eq 2 1 rfl rfl : rg _ _ _ [.string x3.S]).rangeAt hw.fro)) rfl ?_
    refine qq (q_move rfl) rfl ?_
    obtain ⟨x4, hx4, h⟩ := bind_some h
    refine qp (p_call Fun_150 rfl (fun w1 hw => m_l_markText_ok hw.fro N (IntKind.i64.wrap ((IntKind.i64.wrap (s1 + 1)) + 1)) hx4)) rfl ?_
    refine qq (q_sne rfl rfl) rfl ?_
    refine WQ.nil ?_
    refine WT.cond rfl (fun c4 => ?_) (fun c4 => ?_)
    · replace h := ite_t h c4
      refine WT.seq ?_
      refine WT.region ?_
      refine lq (q_assign rfl) rfl ?_
      refine WL.nil ?_
      refine WT.ret Try.func74 (resOk.one rfl) (fun w1 hw => ?_)
      subst hb0
      cases h
      exact post_of_St hw
    replace h := ite_f h c4
    refine WT.skip ?_
    refine WT.region ?_
    refine lq (q_move rfl) rfl ?_
    refine lq (q_add rfl rfl) rfl ?_
    refine lq (q_assign rfl) rfl ?_
    refine WL.nil ?_
    refine WT.inBlock ?_
    refine WT.region ?_
    refine lq (q_move rfl) rfl ?_
    refine lq (q_add rfl rfl) rfl ?_
    refine lq (q_assign rfl) rfl ?_
    refine WL.nil ?_
    refine WT.inLoop (WT.mono (l' := [(0, pv0), (1, .int .i64 (IntKind.i64.wrap ((IntKind.i64.wrap ((IntKind.i64.wrap (s1 + 1)) + 1)) + 1))), (5, .int .i64 (IntKind.i64.wrap (s2 + 1)))]) (S' := St w0 Φ [] []) ⟨rfl, rfl, rfl, trivial⟩ (fun w1 hw => (hw.sel (js := []) rfl).selO (js := []) rfl) ?_)
    exact ih1 (IntKind.i64.wrap ((IntKind.i64.wrap ((IntKind.i64.wrap (s1 + 1)) + 1)) + 1), IntKind.i64.wrap (s2 + 1)) h
  replace h := ite_f h c1
  refine WT.exit rfl ?_
  refine WT.seq ?_
  refine WT.region ?_
  refine lq (q_move rfl) rfl ?_
  refine lq (q_assign rfl) rfl ?_
  refine WL.nil ?_
  refine WT.ret Try.func74 (resOk.one rfl) (fun w1 hw => ?_)
  subst hb0
  cases h
  exact post_of_St hw
theorem m_l_FnExactComputeAll_ok {Φ : Hp} {w : World} (hΦ : In Φ w) (N : Nat) (p0 : (List TExpr)) (p1 : (List TBind)) {pv0 : Value} {pG0 : List Nat} {pv1 : Value} {pG1 : List Nat} (ph0 : RSl RTExpr 11 Φ pG0 pv0 p0) (ph1 : RSl RTBind 4 Φ pG1 pv1 p1) {r : Bool} (h : m_l_FnExactComputeAll N p0 p1 = some r) :
    Calls Try.prog 11 [pv0, pv1].toArray w (Post (.bool r) w) := by
  refine enter Try.func11 rfl Try.ntmps11 rfl (St.start0 hΦ) ?_
  have pa0 : Old ⟨w, [], Φ⟩ pG0 := Old.mk hΦ ph0.kn (Dj.empty _)
  have pa1 : Old ⟨w, [], Φ⟩ pG1 := Old.mk hΦ ph1.kn (Dj.empty _)
  unfold m_l_FnExactComputeAll at h
  refine WT.seq ?_
  refine WT.region ?_
  refine lq (q_assign rfl) rfl ?_
  refine WL.nil ?_
  refine WT.seq ?_
  refine WT.region ?_
  refine lq (q_assign rfl) rfl ?_
  refine WL.nil ?_
  refine WT.seq ?_
  refine WT.region ?_
  refine lq (q_move rfl) rfl ?_
  refine lq (q_move rfl) rfl ?_
  obtain ⟨x1, hx1, h⟩ := bind_some h
  refine lp (p_call Fun_63 rfl (fun w1 hw => m_l_szExprS_ok hw.fro N p0 1048576 ph0 hx1)) rfl ?_
  refine lq (q_assign rfl) rfl ?_
  refine WL.nil ?_
  refine WT.seq ?_
  refine WT.seq ?_
  refine WT.region ?_
  refine lq (q_move rfl) rfl ?_
  refine lq (q_lss rfl rfl) rfl ?_
  refine WL.nil ?_
  refine WT.cond rfl (fun c1 => ?_) (fun c1 => ?_)
  · replace h := ite_t h c1
    refine WT.seq ?_
    refine WT.region ?_
    refine lq (q_assign rfl) rfl ?_
    refine WL.nil ?_
    refine WT.ret Try.func11 (resOk.one rfl) (fun w1 hw => ?_)
    cases h
    exact post_of_St hw
  replace h := ite_f h c1
  refine WT.skip ?_
  refine WT.seq ?_
  refine WT.region ?_
  refine lq (q_move rfl) rfl ?_
  refine lq (q_move rfl) rfl ?_
  obtain ⟨x2, hx2, h⟩ := bind_some h
  refine lp (p_call Fun_64 rfl (fun w1 hw => m_l_szBindS_ok hw.fro N p1 x1 ph1 hx2)) rfl ?_
  refine lq (q_assign rfl) rfl ?_
  refine WL.nil ?_
  refine WT.seq ?_
  refine WT.seq ?_
  refine WT.region ?_
  refine lq (q_move rfl) rfl ?_
  refine lq (q_lss rfl rfl) rfl ?_
  refine WL.nil ?_
  refine WT.cond rfl (fun c2 => ?_) (fun c2 => ?_)
  · replace h := ite_t h c2
    refine WT.seq ?_
    refine WT.region ?_
    refine lq (q_assign rfl) rfl ?_
    refine WL.nil ?_
    refine WT.ret Try.func11 (resOk.one rfl) (fun w1 hw => ?_)
    cases h
    exact post_of_St hw
  replace h := ite_f h c2
  refine WT.skip ?_
  refine WT.seq ?_
  refine WT.region ?_
  refine lq (q_move rfl) rfl ?_
  obtain ⟨x3, hx3, h⟩ := bind_some h
  refine lc (k_call (js := []) (R := []) Fun_66 rfl rfl (fun w1 hw ap hl => m_l_toExprS_ok hw.fro N p0 ph0  hx3)) rfl (fun v1 Φ_1 F1 q1 => ?_)
  obtain ⟨ap1, fr1, v2, rfl, rfl, h1⟩ := q1
  replace ph0 := ph0.frame RTExpr.lasts fr1 (ap1.o pa0)
  replace ph1 := ph1.frame RTBind.lasts fr1 (ap1.o pa1)
  refine lq (q_move rfl) rfl ?_
  obtain ⟨x4, hx4, h⟩ := bind_some h
  refine lc (k_call (js := []) (R := [ob v1]) Fun_67 rfl rfl (fun w1 hw ap hl => m_l_toBindS_ok hw.fro N p1 ph1  hx4)) rfl (fun v3 Φ_2 F2 q2 => ?_)
  obtain ⟨ap2, fr2, v4, rfl, rfl, h2⟩ := q2
  replace ph0 := ph0.frame RTExpr.lasts fr2 (ap2.o pa0)
  replace ph1 := ph1.frame RTBind.lasts fr2 (ap2.o pa1)
  replace h1 := h1.frame RTExpr.lasts fr2 (ap2.r (i := 0) rfl) (Dj.nil _)
  obtain ⟨x5, hx5, h⟩ := bind_some h
  refine lc (k_call (js := []) (R := [ob v3, ob v1]) Fun_65 rfl rfl (fun w1 hw ap hl => m_s_ComputeAll_ok hw.fro N x3 x4 h1.rsl h2.rsl  hx5)) rfl (fun v5 Φ_3 F3 q3 => ?_)
  obtain ⟨ap3, fr3, v6, rfl, rfl, h3⟩ := q3
  replace ph0 := ph0.frame RTExpr.lasts fr3 (ap3.o pa0)
  replace ph1 := ph1.frame RTBind.lasts fr3 (ap3.o pa1)
  refine lq (q_move rfl) rfl ?_
  refine lq (q_extract rfl rfl) rfl ?_
  refine lq (q_extract rfl rfl) rfl ?_
  refine lq (q_assign rfl) rfl ?_
  refine lq (q_assign rfl) rfl ?_
  refine WL.nil ?_
  refine WT.seq ?_
  refine WT.region ?_
  refine lq (q_move rfl) rfl ?_
  obtain ⟨x6, hx6, h⟩ := bind_some h
  refine lc (k_call (js := []) (R := [ob v6, ob v3, ob v1]) Fun_66 rfl rfl (fun w1 hw ap hl => m_l_toExprS_ok hw.fro N p0 ph0  hx6)) rfl (fun v7 Φ_4 F4 q4 => ?_)
  obtain ⟨ap4, fr4, v8, rfl, rfl, h4⟩ := q4
  replace ph0 := ph0.frame RTExpr.lasts fr4 (ap4.o pa0)
  replace ph1 := ph1.frame RTBind.lasts fr4 (ap4.o pa1)
  replace h3 := h3.frame RTVal.lasts fr4 (ap4.r (i := 0) rfl) (Dj.nil _)
  refine lq (q_assign rfl) rfl ?_
  refine WL.nil ?_
  refine WT.seq ?_
  refine WT.region ?_
  refine lq (q_move rfl) rfl ?_
  obtain ⟨x7, hx7, h⟩ := bind_some h
  refine lc (k_call (js := []) (R := [ob v7, ob v6, ob v3, ob v1]) Fun_67 rfl rfl (fun w1 hw ap hl => m_l_toBindS_ok hw.fro N p1 ph1  hx7)) rfl (fun v9 Φ_5 F5 q5 => ?_)
  obtain ⟨ap5, fr5, v10, rfl, rfl, h5⟩ := q5
  replace ph0 := ph0.frame RTExpr.lasts fr5 (ap5.o pa0)
  replace ph1 := ph1.frame RTBind.lasts fr5 (ap5.o pa1)
  replace h3 := h3.frame RTVal.lasts fr5 (ap5.r (i := 1) rfl) (Dj.nil _)
  replace h4 := h4.frame RTExpr.lasts fr5 (ap5.r (i := 0) rfl) (Dj.nil _)
  refine lq (q_assign rfl) rfl ?_
  refine WL.nil ?_
  refine WT.seq ?_
  refine WT.region ?_
  refine lq (q_move rfl) rfl ?_
  refine lq (q_move rfl) rfl ?_
  obtain ⟨x8, hx8, h⟩ := bind_some h
  refine lc (k_call (js := []) (R := [ob v9, ob v7, ob v6, ob v3, ob v1]) Fun_43 rfl rfl (fun w1 hw ap hl => m_i_ComputeAll_ok hw.fro N x6 x7 h4.rsl h5.rsl  hx8)) rfl (fun v11 Φ_6 F6 q6 => ?_)
  obtain ⟨ap6, fr6, v12, rfl, rfl, h6⟩ := q6
  replace ph0 := ph0.frame RTExpr.lasts fr6 (ap6.o pa0)
  replace ph1 := ph1.frame RTBind.lasts fr6 (ap6.o pa1)
  replace h3 := h3.frame RTVal.lasts fr6 (ap6.r (i := 2) rfl) (Dj.nil _)
  replace h4 := h4.frame RTExpr.lasts fr6 (ap6.r (i := 1) rfl) (Dj.nil _)
  replace h5 := h5.frame RTBind.lasts fr6 (ap6.r (i := 0) rfl) (Dj.nil _)
  refine lq (q_move rfl) rfl ?_
  refine lq (q_extract rfl rfl) rfl ?_
  refine lq (q_extract rfl rfl) rfl ?_
  refine lq (q_assign rfl) rfl ?_
  refine lq (q_assign rfl) rfl ?_
  refine WL.nil ?_
  refine WT.seq ?_
  refine WT.seq ?_
  refine WT.region ?_
  refine lq (q_move rfl) rfl ?_
  refine lq (q_move rfl) rfl ?_
  obtain ⟨x9, hx9, h⟩ := bind_some h
  refine lp (p_call Fun_68 rfl (fun w1 hw => m_l_eqValS_ok hw.fro N x8.1 x5.1 h6.rsl h3.rsl hx9)) rfl ?_
  refine lq (q_not rfl) rfl ?_
  refine lq (q_move rfl) rfl ?_
  obtain ⟨b1, hb_1, h⟩ := bind_some h
  refine WL.cutN 4 [(53, .bool b1), (0, pv0), (1, pv1), (6, v6), (7, .bool x5.2), (8, v7), (9, v9), (10, v12), (11, .bool x8.2)] ?_ (fun K => ?_)
  rotate_left
  · refine WL.split (d := 49) rfl (fun c3 => ?_) (fun c3 => ?_)
    · replace hb_1 := ite_t hb_1 c3
      refine WL.no rfl rfl rfl rfl ?_
      refine WL.no rfl rfl rfl rfl ?_
      refine WL.no rfl rfl rfl rfl ?_
      refine WL.q (q_pick1 rfl rfl) rfl rfl rfl ?_
      cases hb_1
      exact WL.keep (by exact ⟨rfl, rfl, rfl, rfl, rfl, rfl, rfl, rfl, rfl, trivial⟩) K
    · replace hb_1 := ite_f hb_1 c3
      refine WL.yes rfl rfl ?_
      refine lq (q_move rfl) rfl ?_
      refine WL.yes rfl rfl ?_
      refine lq (q_move rfl) rfl ?_
      refine WL.yes rfl rfl ?_
      refine lq (q_bne Bo_4 rfl rfl) rfl ?_
      refine WL.q (q_pick0 rfl rfl) rfl rfl rfl ?_
      cases hb_1
      exact WL.keep (by exact ⟨rfl, rfl, rfl, rfl, rfl, rfl, rfl, rfl, rfl, trivial⟩) K
  refine WL.nil ?_
  refine WT.cond rfl (fun c4 => ?_) (fun c4 => ?_)
  · replace h := ite_t h c4
    refine WT.seq ?_
    refine WT.region ?_
    refine lq (q_assign rfl) rfl ?_
    refine WL.nil ?_
    refine WT.ret Try.func11 (resOk.one rfl) (fun w1 hw => ?_)
    cases h
    exact post_of_St hw
  replace h := ite_f h c4
  refine WT.skip ?_
  refine WT.seq ?_
  refine WT.seq ?_
  refine WT.region ?_
  refine lq (q_move rfl) rfl ?_
  refine lq (q_move rfl) rfl ?_
  obtain ⟨x10, hx10, h⟩ := bind_some h
  refine lc (k_call (js := []) (R := [ob v12, ob v9, ob v7, ob v6, ob v3, ob v1]) Fun_66 rfl rfl (fun w1 hw ap hl => m_l_toExprS_ok hw.fro N p0 ph0  hx10)) rfl (fun v13 Φ_7 F7 q7 => ?_)
  obtain ⟨ap7, fr7, v14, rfl, rfl, h7⟩ := q7
  replace ph0 := ph0.frame RTExpr.lasts fr7 (ap7.o pa0)
  replace ph1 := ph1.frame RTBind.lasts fr7 (ap7.o pa1)
  replace h3 := h3.frame RTVal.lasts fr7 (ap7.r (i := 3) rfl) (Dj.nil _)
  replace h4 := h4.frame RTExpr.lasts fr7 (ap7.r (i := 2) rfl) (Dj.nil _)
  replace h5 := h5.frame RTBind.lasts fr7 (ap7.r (i := 1) rfl) (Dj.nil _)
  replace h6 := h6.frame RTVal.lasts fr7 (ap7.r (i := 0) rfl) (Dj.nil _)
  obtain ⟨x11, hx11, h⟩ := bind_some h
  refine lp (p_call Fun_69 rfl (fun w1 hw => m_l_eqExprS_ok hw.fro N x6 x10 h4.rsl h7.rsl hx11)) rfl ?_
  refine lq (q_not rfl) rfl ?_
  refine WL.nil ?_
  refine WT.cond rfl (fun c5 => ?_) (fun c5 => ?_)
  · replace h := ite_t h c5
    refine WT.seq ?_
    refine WT.region ?_
    refine lq (q_assign rfl) rfl ?_
    refine WL.nil ?_
    refine WT.ret Try.func11 (resOk.one rfl) (fun w1 hw => ?_)
    cases h
    exact post_of_St hw
  replace h := ite_f h c5
  refine WT.skip ?_
  refine WT.seq ?_
  refine WT.seq ?_
  refine WT.region ?_
  refine lq (q_move rfl) rfl ?_
  refine lq (q_move rfl) rfl ?_
  obtain ⟨x12, hx12, h⟩ := bind_some h
  refine lc (k_call (js := []) (R := [ob v13, ob v12, ob v9, ob v7, ob v6, ob v3, ob v1]) Fun_67 rfl rfl (fun w1 hw ap hl => m_l_toBindS_ok hw.fro N p1 ph1  hx12)) rfl (fun v15 Φ_8 F8 q8 => ?_)
  obtain ⟨ap8, fr8, v16, rfl, rfl, h8⟩ := q8
  replace ph0 := ph0.frame RTExpr.lasts fr8 (ap8.o pa0)
  replace ph1 := ph1.frame RTBind.lasts fr8 (ap8.o pa1)
  replace h3 := h3.frame RTVal.lasts fr8 (ap8.r (i := 4) rfl) (Dj.nil _)
  replace h4 := h4.frame RTExpr.lasts fr8 (ap8.r (i := 3) rfl) (Dj.nil _)
  replace h5 := h5.frame RTBind.lasts fr8 (ap8.r (i := 2) rfl) (Dj.nil _)
  replace h6 := h6.frame RTVal.lasts fr8 (ap8.r (i := 1) rfl) (Dj.nil _)
  obtain ⟨x13, hx13, h⟩ := bind_some h
  refine lp (p_call Fun_70 rfl (fun w1 hw => m_l_eqBindS_ok hw.fro N x7 x12 h5.rsl h8.rsl hx13)) rfl ?_
  refine lq (q_not rfl) rfl ?_
  refine WL.nil ?_
  refine WT.cond rfl (fun c6 => ?_) (fun c6 => ?_)
  · replace h := ite_t h c6
    refine WT.seq ?_
    refine WT.region ?_
    refine lq (q_assign rfl) rfl ?_
    refine WL.nil ?_
    refine WT.ret Try.func11 (resOk.one rfl) (fun w1 hw => ?_)
    cases h
    exact post_of_St hw
  replace h := ite_f h c6
  refine WT.skip ?_
  refine WT.seq ?_
  refine WT.region ?_
  refine lq (q_assign rfl) rfl ?_
  refine WL.nil ?_
  refine WT.seq ?_
  refine WT.region ?_
  refine lq (q_move rfl) rfl ?_
  refine lq (q_move rfl) rfl ?_
  obtain ⟨x14, hx14, h⟩ := bind_some h
  refine lc (k_call (js := [4]) (R := [ob v15, ob v13, ob v12, ob v9, ob v6, ob v3, ob v1]) Fun_71 rfl rfl (fun w1 hw ap hl => m_l_markExprS_ok hw.fro N x6 1 h4 ap.nd hl hx14)) rfl (fun v17 Φ_9 F9 q9 => ?_)
  obtain ⟨ap9, fr9, rfl, rfl, h9⟩ := q9
  replace ph0 := ph0.frame RTExpr.lasts fr9 (ap9.o pa0)
  replace ph1 := ph1.frame RTBind.lasts fr9 (ap9.o pa1)
  replace h3 := h3.frame RTVal.lasts fr9 (ap9.r (i := 4) rfl) (Dj.nil _)
  replace h5 := h5.frame RTBind.lasts fr9 (ap9.r (i := 3) rfl) (Dj.nil _)
  replace h6 := h6.frame RTVal.lasts fr9 (ap9.r (i := 2) rfl) (Dj.nil _)
  refine lq (q_assign rfl) rfl ?_
  refine WL.nil ?_
  refine WT.seq ?_
  refine WT.region ?_
  refine lq (q_move rfl) rfl ?_
  refine lq (q_move rfl) rfl ?_
  obtain ⟨x15, hx15, h⟩ := bind_some h
  refine lc (k_call (js := [4]) (R := [ob v7, ob v15, ob v13, ob v12, ob v6, ob v3, ob v1]) Fun_72 rfl rfl (fun w1 hw ap hl => m_l_markBindS_ok hw.fro N x7 x14.1 h5 ap.nd hl hx15)) rfl (fun v18 Φ_10 F10 q10 => ?_)
  obtain ⟨ap10, fr10, rfl, rfl, h10⟩ := q10
  replace ph0 := ph0.frame RTExpr.lasts fr10 (ap10.o pa0)
  replace ph1 := ph1.frame RTBind.lasts fr10 (ap10.o pa1)
  replace h3 := h3.frame RTVal.lasts fr10 (ap10.r (i := 4) rfl) (Dj.nil _)
  replace h6 := h6.frame RTVal.lasts fr10 (ap10.r (i := 3) rfl) (Dj.nil _)
  refine lq (q_assign rfl) rfl ?_
  refine WL.nil ?_
  refine WT.seq ?_
  refine WT.seq ?_
  refine WT.region ?_
  refine lq (q_move rfl) rfl ?_
  refine lq (q_lss rfl rfl) rfl ?_
  refine lq (q_move rfl) rfl ?_
  obtain ⟨b2, hb_2, h⟩ := bind_some h
  refine WL.cutN 5 [(77, .bool b2), (0, pv0), (1, pv1), (6, v6), (7, .bool x5.2), (10, v12), (11, .bool x8.2)] ?_ (fun K => ?_)
  rotate_left
  · refine WL.split (d := 72) rfl (fun c7 => ?_) (fun c7 => ?_)
    · replace hb_2 := ite_t hb_2 c7
      refine WL.no rfl rfl rfl rfl ?_
      refine WL.no rfl rfl rfl rfl ?_
      refine WL.no rfl rfl rfl rfl ?_
      refine WL.no rfl rfl rfl rfl ?_
      refine WL.q (q_pick1 rfl rfl) rfl rfl rfl ?_
      cases hb_2
      exact WL.keep (by exact ⟨rfl, rfl, rfl, rfl, rfl, rfl, rfl, trivial⟩) K
    · replace hb_2 := ite_f hb_2 c7
      refine WL.yes rfl rfl ?_
      refine lq (q_move rfl) rfl ?_
      refine WL.yes rfl rfl ?_
      refine lq (q_move rfl) rfl ?_
      refine WL.yes rfl rfl ?_
      obtain ⟨x16, hx16, hb_2⟩ := bind_some hb_2
      refine lp (p_call Fun_68 rfl (fun w1 hw => m_l_eqValS_ok hw.fro N x8.1 x5.1 h6.rsl h3.rsl hx16)) rfl ?_
      refine WL.yes rfl rfl ?_
      refine lq (q_not rfl) rfl ?_
      refine WL.q (q_pick0 rfl rfl) rfl rfl rfl ?_
      cases hb_2
      exact WL.keep (by exact ⟨rfl, rfl, rfl, rfl, rfl, rfl, rfl, trivial⟩) K
  refine lq (q_move rfl) rfl ?_
  obtain ⟨b3, hb_3, h⟩ := bind_some h
  refine WL.cutN 4 [(82, .bool b3), (0, pv0), (1, pv1), (6, v6), (7, .bool x5.2), (10, v12)] ?_ (fun K => ?_)
  rotate_left
  · refine WL.split (d := 78) rfl (fun c8 => ?_) (fun c8 => ?_)
    · replace hb_3 := ite_t hb_3 c8
      refine WL.no rfl rfl rfl rfl ?_
      refine WL.no rfl rfl rfl rfl ?_
      refine WL.no rfl rfl rfl rfl ?_
      refine WL.q (q_pick1 rfl rfl) rfl rfl rfl ?_
      cases hb_3
      exact WL.keep (by exact ⟨rfl, rfl, rfl, rfl, rfl, rfl, trivial⟩) K
    · replace hb_3 := ite_f hb_3 c8
      refine WL.yes rfl rfl ?_
      refine lq (q_move rfl) rfl ?_
      refine WL.yes rfl rfl ?_
      refine lq (q_move rfl) rfl ?_
      refine WL.yes rfl rfl ?_
      refine lq (q_bne Bo_4 rfl rfl) rfl ?_
      refine WL.q (q_pick0 rfl rfl) rfl rfl rfl ?_
      cases hb_3
      exact WL.keep (by exact ⟨rfl, rfl, rfl, rfl, rfl, rfl, trivial⟩) K
  refine WL.nil ?_
  refine WT.cond rfl (fun c9 => ?_) (fun c9 => ?_)
  · replace h := ite_t h c9
    refine WT.seq ?_
    refine WT.region ?_
    refine lq (q_assign rfl) rfl ?_
    refine WL.nil ?_
    refine WT.ret Try.func11 (resOk.one rfl) (fun w1 hw => ?_)
    cases h
    exact post_of_St hw
  replace h := ite_f h c9
  refine WT.skip ?_
  refine WT.seq ?_
  refine WT.region ?_
  refine lq (q_assign rfl) rfl ?_
  refine WL.nil ?_
  refine WT.seq ?_
  refine WT.region ?_
  refine lq (q_move rfl) rfl ?_
  refine lq (q_move rfl) rfl ?_
  obtain ⟨x17, hx17, h⟩ := bind_some h
  refine lc (k_call (js := [4]) (R := [ob v9, ob v7, ob v15, ob v13, ob v6, ob v3, ob v1]) Fun_73 rfl rfl (fun w1 hw ap hl => m_l_markValS_ok hw.fro N x8.1 1 h6 ap.nd hl hx17)) rfl (fun v19 Φ_11 F11 q11 => ?_)
  obtain ⟨ap11, fr11, rfl, rfl, h11⟩ := q11
  replace ph0 := ph0.frame RTExpr.lasts fr11 (ap11.o pa0)
  replace ph1 := ph1.frame RTBind.lasts fr11 (ap11.o pa1)
  replace h3 := h3.frame RTVal.lasts fr11 (ap11.r (i := 4) rfl) (Dj.nil _)
  refine lq (q_assign rfl) rfl ?_
  refine WL.nil ?_
  refine WT.seq ?_
  refine WT.region ?_
  refine lq (q_assign rfl) rfl ?_
  refine WL.nil ?_
  refine WT.seq ?_
  refine WT.region ?_
  refine lq (q_move rfl) rfl ?_
  refine lq (q_move rfl) rfl ?_
  obtain ⟨x18, hx18, h⟩ := bind_some h
  refine lp (p_call Fun_74 rfl (fun w1 hw => m_l_heldValS_ok hw.fro N x17.2 1 h11.rsl hx18)) rfl ?_
  refine lq (q_assign rfl) rfl ?_
  refine WL.nil ?_
  refine WT.seq ?_
  refine WT.seq ?_
  refine WT.region ?_
  refine lq (q_move rfl) rfl ?_
  refine lq (q_lss rfl rfl) rfl ?_
  refine WL.nil ?_
  refine WT.cond rfl (fun c10 => ?_) (fun c10 => ?_)
  · replace h := ite_t h c10
    refine WT.seq ?_
    refine WT.region ?_
    refine lq (q_assign rfl) rfl ?_
    refine WL.nil ?_
    refine WT.ret Try.func11 (resOk.one rfl) (fun w1 hw => ?_)
    cases h
    exact post_of_St hw
  replace h := ite_f h c10
  refine WT.skip ?_
  refine WT.seq ?_
  refine WT.seq ?_
  refine WT.region ?_
  refine lq (q_move rfl) rfl ?_
  refine lq (q_move rfl) rfl ?_
  refine lq (q_neq rfl rfl) rfl ?_
  refine WL.nil ?_
  refine WT.cond rfl (fun c11 => ?_) (fun c11 => ?_)
  · replace h := ite_t h c11
    refine WT.seq ?_
    refine WT.region ?_
    refine lq (q_assign rfl) rfl ?_
    refine WL.nil ?_
    refine WT.ret Try.func11 (resOk.one rfl) (fun w1 hw => ?_)
    cases h
    exact post_of_St hw
  replace h := ite_f h c11
  refine WT.skip ?_
  refine WT.seq ?_
  refine WT.region ?_
  refine lq (q_move rfl) rfl ?_
  obtain ⟨x19, hx19, h⟩ := bind_some h
  refine lc (k_call (js := []) (R := [ob v12, ob v9, ob v7, ob v15, ob v13, ob v6, ob v3, ob v1]) Fun_66 rfl rfl (fun w1 hw ap hl => m_l_toExprS_ok hw.fro N p0 ph0  hx19)) rfl (fun v20 Φ_12 F12 q12 => ?_)
  obtain ⟨ap12, fr12, v21, rfl, rfl, h12⟩ := q12
  replace ph1 := ph1.frame RTBind.lasts fr12 (ap12.o pa1)
  replace h3 := h3.frame RTVal.lasts fr12 (ap12.r (i := 5) rfl) (Dj.nil _)
  replace h11 := h11.frame RTVal.lasts fr12 (ap12.r (i := 0) rfl) (Dj.nil _)
  refine lq (q_move rfl) rfl ?_
  obtain ⟨x20, hx20, h⟩ := bind_some h
  refine lc (k_call (js := []) (R := [ob v20, ob v12, ob v9, ob v7, ob v15, ob v13, ob v6, ob v3, ob v1]) Fun_67 rfl rfl (fun w1 hw ap hl => m_l_toBindS_ok hw.fro N p1 ph1  hx20)) rfl (fun v22 Φ_13 F13 q13 => ?_)
  obtain ⟨ap13, fr13, v23, rfl, rfl, h13⟩ := q13
  replace h12 := h12.frame RTExpr.lasts fr13 (ap13.r (i := 0) rfl) (Dj.nil _)
  replace h3 := h3.frame RTVal.lasts fr13 (ap13.r (i := 6) rfl) (Dj.nil _)
  replace h11 := h11.frame RTVal.lasts fr13 (ap13.r (i := 1) rfl) (Dj.nil _)
  obtain ⟨x21, hx21, h⟩ := bind_some h
  refine lc (k_call (js := []) (R := [ob v22, ob v20, ob v12, ob v9, ob v7, ob v15, ob v13, ob v6, ob v3, ob v1]) Fun_43 rfl rfl (fun w1 hw ap hl => m_i_ComputeAll_ok hw.fro N x19 x20 h12.rsl h13.rsl  hx21)) rfl (fun v24 Φ_14 F14 q14 => ?_)
  obtain ⟨ap14, fr14, v25, rfl, rfl, h14⟩ := q14
  replace h3 := h3.frame RTVal.lasts fr14 (ap14.r (i := 7) rfl) (Dj.nil _)
  replace h11 := h11.frame RTVal.lasts fr14 (ap14.r (i := 2) rfl) (Dj.nil _)
  refine lq (q_move rfl) rfl ?_
  refine lq (q_extract rfl rfl) rfl ?_
  refine lq (q_extract rfl rfl) rfl ?_
  refine lq (q_assign rfl) rfl ?_
  refine lq (q_assign rfl) rfl ?_
  refine WL.nil ?_
  refine WT.seq ?_
  refine WT.seq ?_
  refine WT.region ?_
  refine lq (q_move rfl) rfl ?_
  refine lq (q_move rfl) rfl ?_
  obtain ⟨x22, hx22, h⟩ := bind_some h
  refine lp (p_call Fun_68 rfl (fun w1 hw => m_l_eqValS_ok hw.fro N x21.1 x5.1 h14.rsl h3.rsl hx22)) rfl ?_
  refine lq (q_not rfl) rfl ?_
  refine lq (q_move rfl) rfl ?_
  obtain ⟨b4, hb_4, h⟩ := bind_some h
  refine WL.cutN 4 [(110, .bool b4), (10, v12), (13, .int .i64 x17.1)] ?_ (fun K => ?_)
  rotate_left
  · refine WL.split (d := 106) rfl (fun c12 => ?_) (fun c12 => ?_)
    · replace hb_4 := ite_t hb_4 c12
      refine WL.no rfl rfl rfl rfl ?_
      refine WL.no rfl rfl rfl rfl ?_
      refine WL.no rfl rfl rfl rfl ?_
      refine WL.q (q_pick1 rfl rfl) rfl rfl rfl ?_
      cases hb_4
      exact WL.keep (by exact ⟨rfl, rfl, rfl, trivial⟩) K
    · replace hb_4 := ite_f hb_4 c12
      refine WL.yes rfl rfl ?_
      refine lq (q_move rfl) rfl ?_
      refine WL.yes rfl rfl ?_
      refine lq (q_move rfl) rfl ?_
      refine WL.yes rfl rfl ?_
      refine lq (q_bne Bo_4 rfl rfl) rfl ?_
      refine WL.q (q_pick0 rfl rfl) rfl rfl rfl ?_
      cases hb_4
      exact WL.keep (by exact ⟨rfl, rfl, rfl, trivial⟩) K
  refine WL.nil ?_
  refine WT.cond rfl (fun c13 => ?_) (fun c13 => ?_)
  · replace h := ite_t h c13
    refine WT.seq ?_
    refine WT.region ?_
    refine lq (q_assign rfl) rfl ?_
    refine WL.nil ?_
    refine WT.ret Try.func11 (resOk.one rfl) (fun w1 hw => ?_)
    cases h
    exact post_of_St hw
  replace h := ite_f h c13
  refine WT.skip ?_
  refine WT.seq ?_
  refine WT.region ?_
  refine lq (q_assign rfl) rfl ?_
  refine WL.nil ?_
  refine WT.seq ?_
  refine WT.region ?_
  refine lq (q_move rfl) rfl ?_
  refine lq (q_move rfl) rfl ?_
  obtain ⟨x23, hx23, h⟩ := bind_some h
  refine lp (p_call Fun_74 rfl (fun w1 hw => m_l_heldValS_ok hw.fro N x17.2 1 h11.rsl hx23)) rfl ?_
  refine lq (q_assign rfl) rfl ?_
  refine WL.nil ?_
  refine WT.seq ?_
  refine WT.seq ?_
  refine WT.region ?_
  refine lq (q_move rfl) rfl ?_
  refine lq (q_lss rfl rfl) rfl ?_
  refine WL.nil ?_
  refine WT.cond rfl (fun c14 => ?_) (fun c14 => ?_)
  · replace h := ite_t h c14
    refine WT.seq ?_
    refine WT.region ?_
    refine lq (q_assign rfl) rfl ?_
    refine WL.nil ?_
    refine WT.ret Try.func11 (resOk.one rfl) (fun w1 hw => ?_)
    cases h
    exact post_of_St hw
  replace h := ite_f h c14
  refine WT.skip ?_
  refine WT.seq ?_
  refine WT.seq ?_
  refine WT.region ?_
  refine lq (q_move rfl) rfl ?_
  refine lq (q_move rfl) rfl ?_
  refine lq (q_neq rfl rfl) rfl ?_
  refine WL.nil ?_
  refine WT.cond rfl (fun c15 => ?_) (fun c15 => ?_)
  · replace h := ite_t h c15
    refine WT.seq ?_
    refine WT.region ?_
    refine lq (q_assign rfl) rfl ?_
    refine WL.nil ?_
    refine WT.ret Try.func11 (resOk.one rfl) (fun w1 hw => ?_)
    cases h
    exact post_of_St hw
  replace h := ite_f h c15
  refine WT.skip ?_
  refine WT.seq ?_
  refine WT.region ?_
  refine lq (q_assign rfl) rfl ?_
  refine WL.nil ?_
  refine WT.ret Try.func11 (resOk.one rfl) (fun w1 hw => ?_)
  cases h
  exact post_of_St hw
theorem m_l_big_ok {Φ : Hp} {w : World} (hΦ : In Φ w) (N : Nat) (p0 : (List Int)) {pv0 : Value} {pG0 : List Nat} (ph0 : RSl (RI .u8) 1 Φ pG0 pv0 p0) {r : Bool} (h : m_l_big N p0 = some r) :
    Calls Try.prog 12 [pv0].toArray w (Post (.bool r) w) := by
  refine enter Try.func12 rfl Try.ntmps12 rfl (St.start0 hΦ) ?_
  unfold m_l_big at h
  refine WT.seq ?_
  refine WT.region ?_
  refine lq (q_assign rfl) rfl ?_
  refine WL.nil ?_
  refine WT.seq ?_
  refine WT.region ?_
  refine lq (q_move rfl) rfl ?_
  refine lq (q_lenR Sl_22 rfl rfl ph0) rfl ?_
  refine lq (q_gtr rfl rfl) rfl ?_
  refine lq (q_assign rfl) rfl ?_
  refine WL.nil ?_
  refine WT.ret Try.func12 (resOk.one rfl) (fun w1 hw => ?_)
  cases h
  exact post_of_St hw
theorem m_s_l1New_ok {Φ : Hp} {w : World} (hΦ : In Φ w) (N : Nat) (p0 : (List Int)) {pv0 : Value} {pG0 : List Nat} (ph0 : RSl (RI .u8) 1 Φ pG0 pv0 p0) {r : Tl1Cur} (h : m_s_l1New N p0 = some r) :
    Calls Try.prog 75 [pv0].toArray w (PostG Φ w [] (fun Φ' Fs v => ∃ (b0 : Nat) (sr_0_0 : Value) (Gr_0_0 : List Nat), v = .pointer (some ⟨b0, 0, none⟩) ∧ Fs = [[b0]] ∧ RSl (RI .u8) 1 Φ' Gr_0_0 sr_0_0 r.b ∧ (∀ k ∈ Gr_0_0, k ∈ pG0) ∧ Φ' b0 = some (.cells #[sr_0_0, .int .i64 r.i, .int .i64 r.h] 195 (0, 0)))) := by
  refine enter Try.func75 rfl Try.ntmps75 rfl (St.start0 hΦ) ?_
  generalize hb0 : (⟨w, [], Φ⟩ : Base) = w0
  unfold m_s_l1New at h
  refine WT.seq ?_
  refine WT.region ?_
  refine lq (q_assign rfl) rfl ?_
  refine WL.nil ?_
  refine WT.seq ?_
  refine WT.region ?_
  refine lq (q_move rfl) rfl ?_
  refine lq (q_lenR Sl_22 rfl rfl ph0) rfl ?_
  refine lq (q_add rfl rfl) rfl ?_
  refine lq (q_assign rfl) rfl ?_
  refine WL.nil ?_
  refine WT.seq ?_
  refine WT.seq ?_
  refine WT.region ?_
  refine lq (q_assign rfl) rfl ?_
  refine WL.nil ?_
  refine WT.block ?_
  refine WT.loop ?_
  refine WT.mono (l' := [(0, pv0), (3, .int .i64 (IntKind.i64.wrap (354354 + (p0.length : Int)))), (4, .int .i64 0)]) (S' := St w0 Φ [] []) ⟨rfl, rfl, rfl, trivial⟩ (fun w1 hw => (hw.sel (js := []) rfl).selO (js := []) rfl) ?_
  refine loop_ind (σ := Int × Int) (fun s => [(0, pv0), (3, .int .i64 s.1), (4, .int .i64 s.2)]) (fun s => St w0 Φ [] []) (fun m s => m_s_l1New_l1 N p0 m s.1 s.2 = some r) (fun s hm => none_ne (show (none : Option (Tl1Cur)) = some r from hm)) (fun n1 ih1 s hm => ?_) N (IntKind.i64.wrap (354354 + (p0.length : Int)), 0) h
  obtain ⟨s1, s2⟩ := s
  have h : m_s_l1New_l1 N p0 (n1 + 1) s1 s2 = some r := hm
  show WT _ _ [(0, pv0), (3, .int .i64 s1), (4, .int .i64 s2)] (St w0 Φ [] [])
  unfold m_s_l1New_l1 at h
  refine WT.seq ?_
  refine WT.seq ?_
  refine WT.region ?_
  refine lq (q_move rfl) rfl ?_
  refine lq (q_move rfl) rfl ?_
  refine lq (q_lenR Sl_22 rfl rfl ph0) rfl ?_
  refine lq (q_lss rfl rfl) rfl ?_
  refine lq (q_move rfl) rfl ?_
  obtain ⟨b1, hb_1, h⟩ := bind_some h
  refine WL.cutN 3 [(15, .bool b1), (0, pv0), (3, .int .i64 s1), (4, .int .i64 s2)] ?_ (fun K => ?_)
  rotate_left
  · refine WL.split (d := 12) rfl (fun c1 => ?_) (fun c1 => ?_)
    · replace hb_1 := ite_t hb_1 c1
      refine WL.yes rfl rfl ?_
      refine lq (q_move rfl) rfl ?_
      refine WL.yes rfl rfl ?_
      refine lq (q_lss rfl rfl) rfl ?_
      refine WL.q (q_pick1 rfl rfl) rfl rfl rfl ?_
      cases hb_1
      exact WL.keep (by exact ⟨rfl, rfl, rfl, rfl, trivial⟩) K
    · replace hb_1 := ite_f hb_1 c1
      refine WL.no rfl rfl rfl rfl ?_
      refine WL.no rfl rfl rfl rfl ?_
      refine WL.q (q_pick0 rfl rfl) rfl rfl rfl ?_
      cases hb_1
      exact WL.keep (by exact ⟨rfl, rfl, rfl, rfl, trivial⟩) K
  refine WL.nil ?_
  refine WT.cond rfl (fun c2 => ?_) (fun c2 => ?_)
  · replace h := ite_t h c2
    refine WT.skip ?_
    refine WT.seq ?_
    refine WT.block ?_
    refine WT.region ?_
    refine lq (q_move rfl) rfl ?_
    refine lq (q_mul rfl rfl) rfl ?_
    refine lq (q_move rfl) rfl ?_
    refine lq (q_move rfl) rfl ?_
    obtain ⟨x1, hx1, h⟩ := bind_some h
    obtain ⟨cs1, F1, -, g1, hb1, hs1, r1⟩ := ph0.el (idx_some hx1).2.2
    obtain ⟨rfl, -⟩ := r1
    refine lq (q_indexAddr Sl_22 rfl rfl ph0 hx1) rfl ?_
    refine lq (q_load1 T1_5 rfl (fun w1 hw => (g1.of_eq 0 1 rfl rfl : rg _ _ _ [.int .u8 x1]).rangeAt hw.fro)) rfl ?_
    refine lq (q_convI Ik_5 Ik_3 rfl) rfl ?_
    refine lq (q_add rfl rfl) rfl ?_
    refine lq (q_add rfl rfl) rfl ?_
    refine lq (q_and rfl rfl) rfl ?_
    refine lq (q_assign rfl) rfl ?_
    refine WL.nil ?_
    refine WT.inBlock ?_
    refine WT.region ?_
    refine lq (q_move rfl) rfl ?_
    refine lq (q_add rfl rfl) rfl ?_
    refine lq (q_assign rfl) rfl ?_
    refine WL.nil ?_
    refine WT.inLoop (WT.mono (l' := [(0, pv0), (3, .int .i64 (andI .i64 (IntKind.i64.wrap ((IntKind.i64.wrap ((IntKind.i64.wrap (s1 * 137)) + (IntKind.i64.wrap x1))) + 11)) 1073741823)), (4, .int .i64 (IntKind.i64.wrap (s2 + 1)))]) (S' := St w0 Φ [] []) ⟨rfl, rfl, rfl, trivial⟩ (fun w1 hw => (hw.sel (js := []) rfl).selO (js := []) rfl) ?_)
    exact ih1 ((andI .i64 (IntKind.i64.wrap ((IntKind.i64.wrap ((IntKind.i64.wrap (s1 * 137)) + (IntKind.i64.wrap x1))) + 11)) 1073741823), IntKind.i64.wrap (s2 + 1)) h
  replace h := ite_f h c2
  refine WT.exit rfl ?_
  refine WT.seq ?_
  refine WT.region ?_
  refine lq (q_move rfl) rfl ?_
  refine lq (q_move rfl) rfl ?_
  refine lq (q_build (vs := [(0, pv0), (2, .int .i64 s1)]) (C := #[pv0, .int .i64 0, .int .i64 s1]) Pl_195 Zr_195 rfl (fill_cons (cells := [.slice none 0 0, .int .i64 0, .int .i64 0]) (c := [pv0]) (C' := [pv0, .int .i64 0, .int .i64 0]) rfl (one_cells ph0.one) rfl rfl rfl (fill_cons (cells := [pv0, .int .i64 0, .int .i64 0]) (c := [.int .i64 s1]) (C' := [pv0, .int .i64 0, .int .i64 s1]) rfl rfl rfl rfl rfl (fill_nil)))) rfl ?_
  refine ln (n_box (C := #[pv0, .int .i64 0, .int .i64 s1]) rfl rfl) rfl (fun b_1 => ?_)
  refine lq (q_assign rfl) rfl ?_
  refine WL.nil ?_
  refine WT.frz (js := [0]) (R := []) rfl (fun Φ_1 fr1 k1 => ?_)
  replace ph0 := ph0.frame RI.lasts fr1 (Dj.empty _)
  refine WT.ret Try.func75 (resOk.one rfl) (fun w1 hw => ?_)
  subst hb0
  cases h
  refine postG_of_St (js := [0]) hw rfl ⟨b_1, pv0, pG0, rfl, rfl, ph0, (fun k hk => hk), k1⟩
theorem m_s_l1Byte_ok {Φ : Hp} {w : World} (hΦ : In Φ w) (N : Nat) (p0 : Tl1Cur) {pv0_0 : Value} {pG0_0 : List Nat} {pb0 : Nat} (ph0_0 : RSl (RI .u8) 1 Φ pG0_0 pv0_0 p0.b) (pp0 : Φ pb0 = some (.cells #[pv0_0, .int .i64 p0.i, .int .i64 p0.h] 195 (0, 0))) (pd0_0 : Dj pG0_0 [[pb0]].flatten) (hB : [[pb0]].flatten.Nodup) (hlt : ∀ k ∈ [[pb0]].flatten, k < w.heap.size) {r : Int × Tl1Cur} (h : m_s_l1Byte N p0 = some r) :
    Calls Try.prog 154 [.pointer (some ⟨pb0, 0, none⟩)].toArray w (PostG Φ w [[pb0]].flatten (fun Φ' Fs v => v = .int .i64 r.1 ∧ Fs = [[pb0]] ∧ r.2.b = p0.b ∧ Φ' pb0 = some (.cells #[pv0_0, .int .i64 r.2.i, .int .i64 r.2.h] 195 (0, 0)))) := by
  refine enter Try.func154 rfl Try.ntmps154 rfl (St.start hΦ [[pb0]] hB hlt) ?_
  have pa0_0 : Old ⟨w, [[pb0]].flatten, Φ⟩ pG0_0 := Old.mk hΦ ph0_0.kn pd0_0
  unfold m_s_l1Byte at h
  refine WT.seq ?_
  refine WT.region ?_
  refine lq (q_assign rfl) rfl ?_
  refine WL.nil ?_
  refine WT.seq ?_
  refine WT.region ?_
  refine lq (q_move rfl) rfl ?_
  refine lq (q_move rfl) rfl ?_
  refine lq (q_nilCheck rfl) rfl ?_
  refine lq (q_fieldAddr Fld_195_2 rfl) rfl ?_
  refine lq (q_load1 T1_3 rfl (fun w1 hw => ((rg_cells pp0).of_eq 2 1 rfl rfl : rg _ _ _ [.int .i64 p0.h]).rangeAt hw.fro)) rfl ?_
  refine lq (q_mul rfl rfl) rfl ?_
  refine lq (q_add rfl rfl) rfl ?_
  refine lq (q_nilCheck rfl) rfl ?_
  refine lq (q_fieldAddr Fld_195_2 rfl) rfl ?_
  refine WL.thw (js := [0]) (R := []) rfl pp0 (fun Φ_1 ap1 fr1 => ?_)
  replace ph0_0 := ph0_0.frame RI.lasts fr1 (ap1.o pa0_0)
  refine ls (s_store (i := 0) (vs := [.int .i64 (IntKind.i64.wrap ((IntKind.i64.wrap (p0.h * 6364136223846793005)) + 1442695040888963407))]) (C' := [pv0_0, .int .i64 p0.i, .int .i64 (IntKind.i64.wrap ((IntKind.i64.wrap (p0.h * 6364136223846793005)) + 1442695040888963407))]) (O' := [(pb0, .cells #[pv0_0, .int .i64 p0.i, .int .i64 (IntKind.i64.wrap ((IntKind.i64.wrap (p0.h * 6364136223846793005)) + 1442695040888963407))] 195 (0, 0))]) Sz_3 rfl rfl rfl rfl rfl rfl ⟨rfl, trivial⟩ rfl rfl) rfl ?_
  refine WL.nil ?_
  refine WT.seq ?_
  refine WT.draw mixed (by kernel_rfl) (fun _ h => h.drew) ?_
  refine qq (q_move rfl) rfl ?_
  refine qq (q_nilCheck rfl) rfl ?_
  refine qq (q_fieldAddr Fld_195_2 rfl) rfl ?_
  refine qq (q_load1 T1_3 rfl (fun w1 hw => hw.rgO (i := 0) rfl 2 1 [.int .i64 (IntKind.i64.wrap ((IntKind.i64.wrap (p0.h * 6364136223846793005)) + 1442695040888963407))] rfl)) rfl ?_
  refine qq (q_shr rfl rfl (by decide)) rfl ?_
  refine qq (q_move rfl) rfl ?_
  refine qq (q_nilCheck rfl) rfl ?_
  refine qq (q_fieldAddr Fld_195_2 rfl) rfl ?_
  refine qq (q_load1 T1_3 rfl (fun w1 hw => hw.rgO (i := 0) rfl 2 1 [.int .i64 (IntKind.i64.wrap ((IntKind.i64.wrap (p0.h * 6364136223846793005)) + 1442695040888963407))] rfl)) rfl ?_
  refine qq (q_shr rfl rfl (by decide)) rfl ?_
  refine qq (q_xor rfl rfl) rfl ?_
  refine qq (q_and rfl rfl) rfl ?_
  refine qq (q_assign rfl) rfl ?_
  refine WQ.nil ?_
  refine WT.seq ?_
  refine WT.seq ?_
  refine WT.draw mixed (by kernel_rfl) (fun _ h => h.drew) ?_
  refine qq (q_move rfl) rfl ?_
  refine qq (q_nilCheck rfl) rfl ?_
  refine qq (q_fieldAddr Fld_195_1 rfl) rfl ?_
  refine qq (q_load1 T1_3 rfl (fun w1 hw => hw.rgO (i := 0) rfl 1 1 [.int .i64 p0.i] rfl)) rfl ?_
  refine qq (q_move rfl) rfl ?_
  refine qq (q_nilCheck rfl) rfl ?_
  refine qq (q_fieldAddr Fld_195_0 rfl) rfl ?_
  refine qq (q_load1 T1_22 rfl (fun w1 hw => hw.rgO (i := 0) rfl 0 1 [pv0_0] rfl)) rfl ?_
  refine qq (q_lenR Sl_22 rfl rfl ph0_0) rfl ?_
  refine qq (q_lss rfl rfl) rfl ?_
  refine WQ.nil ?_
  refine WT.cond rfl (fun c1 => ?_) (fun c1 => ?_)
  · replace h := ite_t h c1
    refine WT.seq ?_
    refine WT.draw mixed (by kernel_rfl) (fun _ h => h.drew) ?_
    refine qq (q_move rfl) rfl ?_
    refine qq (q_move rfl) rfl ?_
    refine qq (q_nilCheck rfl) rfl ?_
    refine qq (q_fieldAddr Fld_195_0 rfl) rfl ?_
    refine qq (q_load1 T1_22 rfl (fun w1 hw => hw.rgO (i := 0) rfl 0 1 [pv0_0] rfl)) rfl ?_
    refine qq (q_move rfl) rfl ?_
    refine qq (q_nilCheck rfl) rfl ?_
    refine qq (q_fieldAddr Fld_195_1 rfl) rfl ?_
    refine qq (q_load1 T1_3 rfl (fun w1 hw => hw.rgO (i := 0) rfl 1 1 [.int .i64 p0.i] rfl)) rfl ?_
    obtain ⟨x1, hx1, h⟩ := bind_some h
    obtain ⟨cs1, F1, -, g1, hb1, hs1, r1⟩ := ph0_0.el (idx_some hx1).2.2
    obtain ⟨rfl, -⟩ := r1
    refine qq (q_indexAddr Sl_22 rfl rfl ph0_0 hx1) rfl ?_
    refine qq (q_load1 T1_5 rfl (fun w1 hw => (g1.of_eq 0 1 rfl rfl : rg _ _ _ [.int .u8 x1]).rangeAt hw.fro)) rfl ?_
    refine qq (q_convI Ik_5 Ik_3 rfl) rfl ?_
    refine qq (q_add rfl rfl) rfl ?_
    refine qq (q_and rfl rfl) rfl ?_
    refine qq (q_assign rfl) rfl ?_
    refine WQ.nil ?_
    refine WT.region ?_
    refine lq (q_move rfl) rfl ?_
    refine lq (q_move rfl) rfl ?_
    refine lq (q_nilCheck rfl) rfl ?_
    refine lq (q_fieldAddr Fld_195_1 rfl) rfl ?_
    refine lq (q_load1 T1_3 rfl (fun w1 hw => hw.rgO (i := 0) rfl 1 1 [.int .i64 p0.i] rfl)) rfl ?_
    refine lq (q_add rfl rfl) rfl ?_
    refine lq (q_nilCheck rfl) rfl ?_
    refine lq (q_fieldAddr Fld_195_1 rfl) rfl ?_
    refine ls (s_store (i := 0) (vs := [.int .i64 (IntKind.i64.wrap (p0.i + 1))]) (C' := [pv0_0, .int .i64 (IntKind.i64.wrap (p0.i + 1)), .int .i64 (IntKind.i64.wrap ((IntKind.i64.wrap (p0.h * 6364136223846793005)) + 1442695040888963407))]) (O' := [(pb0, .cells #[pv0_0, .int .i64 (IntKind.i64.wrap (p0.i + 1)), .int .i64 (IntKind.i64.wrap ((IntKind.i64.wrap (p0.h * 6364136223846793005)) + 1442695040888963407))] 195 (0, 0))]) Sz_3 rfl rfl rfl rfl rfl rfl ⟨rfl, trivial⟩ rfl rfl) rfl ?_
    refine WL.nil ?_
    refine WT.seq ?_
    refine WT.region ?_
    refine lq (q_move rfl) rfl ?_
    refine lq (q_assign rfl) rfl ?_
    refine WL.nil ?_
    refine WT.frz (js := [0]) (R := []) rfl (fun Φ_2 fr2 k1 => ?_)
    replace ph0_0 := ph0_0.frame RI.lasts fr2 (Dj.empty _)
    refine WT.ret Try.func154 (resOk.one rfl) (fun w1 hw => ?_)
    cases h
    refine postG_of_St (js := [0]) hw rfl ⟨rfl, rfl, rfl, k1⟩
  replace h := ite_f h c1
  refine WT.skip ?_
  refine WT.seq ?_
  refine WT.region ?_
  refine lq (q_move rfl) rfl ?_
  refine lq (q_assign rfl) rfl ?_
  refine WL.nil ?_
  refine WT.frz (js := [0]) (R := []) rfl (fun Φ_3 fr3 k2 => ?_)
  replace ph0_0 := ph0_0.frame RI.lasts fr3 (Dj.empty _)
  refine WT.ret Try.func154 (resOk.one rfl) (fun w1 hw => ?_)
  cases h
  refine postG_of_St (js := [0]) hw rfl ⟨rfl, rfl, rfl, k2⟩
end Go.Proofs.Ytmhckcoabhahpaa
