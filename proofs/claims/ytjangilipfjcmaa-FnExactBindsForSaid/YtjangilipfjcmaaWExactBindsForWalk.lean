/- Printed by a program of ours: each Go function computes its Lean function. -/
import Derived.Test.YtjangilipfjcmaaProg
import Derived.Test.YtjangilipfjcmaaWExactBindsForWalk2
namespace Go.Proofs.Ytjangilipfjcmaa
open Eng
open Go.RowKit (Below)
set_option linter.unusedVariables false
set_option linter.unusedSimpArgs false

set_option maxRecDepth 100000
set_option maxHeartbeats 1000000
theorem m_l_markActS_ok {Φ : Hp} {w : World} (hΦ : In Φ w) (N : Nat) (p0 : (List TAct)) (p1 : Int) {pv0 : Value} {pD0 : List Nat} (ph0 : OSl OTAct 146 5 Φ pD0 pv0 p0) (hB : [ob pv0, pD0].flatten.Nodup) (hlt : ∀ k ∈ [ob pv0, pD0].flatten, k < w.heap.size) {r : Int × (List TAct)} (h : m_l_markActS N p0 p1 = some r) :
    Calls Try.prog 67 [pv0, .int .i64 p1].toArray w (PostG Φ w [ob pv0, pD0].flatten (fun Φ' Fs v => ∃ (Do_0_0 : List Nat), v = .int .i64 r.1 ∧ Fs = [ob pv0, Do_0_0] ∧ OSl OTAct 146 5 Φ' Do_0_0 pv0 r.2)) := by
  refine enter Try.func67 rfl Try.ntmps67 rfl (St.start hΦ [ob pv0, pD0] hB hlt) ?_
  generalize hb0 : (⟨w, [ob pv0, pD0].flatten, Φ⟩ : Base) = w0
  unfold m_l_markActS at h
  refine WT.seq ?_
  refine WT.region ?_
  refine lq (q_assign rfl) rfl ?_
  refine WL.nil ?_
  refine WT.seq ?_
  refine WT.seq ?_
  refine WT.region ?_
  refine lq (q_assign rfl) rfl ?_
  refine WL.nil ?_
  refine WT.block ?_
  refine WT.loop ?_
  refine WT.mono (l' := [(0, pv0), (1, .int .i64 p1), (5, .int .i64 0)]) (S' := St w0 Φ [] [ob pv0, pD0]) ⟨rfl, rfl, rfl, trivial⟩ (fun w1 hw => (hw.sel (js := [0, 0]) rfl).selO (js := []) rfl) ?_
  refine loop_ind (σ := Hp × (List TAct) × List Nat × Int × Int) (fun s => [(0, pv0), (1, .int .i64 s.2.2.2.1), (5, .int .i64 s.2.2.2.2)]) (fun s => St w0 s.1 [] [ob pv0, s.2.2.1]) (fun m s => m_l_markActS_l1 N m s.2.1 s.2.2.2.1 s.2.2.2.2 = some r ∧ (OSl OTAct 146 5 s.1 s.2.2.1 pv0 s.2.1)) (fun s hm => none_ne (show (none : Option (Int × (List TAct))) = some r from hm.1)) (fun n1 ih1 s hm => ?_) N (Φ, p0, pD0, p1, 0) ⟨h, ph0⟩
  obtain ⟨Φ_1, s1, D1, s2, s3⟩ := s
  obtain ⟨h, k1⟩ := hm
  replace h : m_l_markActS_l1 N (n1 + 1) s1 s2 s3 = some r := h
  replace k1 : OSl OTAct 146 5 Φ_1 D1 pv0 s1 := k1
  show WT _ _ [(0, pv0), (1, .int .i64 s2), (5, .int .i64 s3)] (St w0 Φ_1 [] [ob pv0, D1])
  unfold m_l_markActS_l1 at h
  refine WT.seq ?_
  refine WT.seq ?_
  refine WT.region ?_
  refine lq (q_move rfl) rfl ?_
  refine lq (q_move rfl) rfl ?_
  refine lq (q_lenR Sl_49 rfl rfl (k1.rslG OTAct.gives)) rfl ?_
  refine lq (q_lss rfl rfl) rfl ?_
  refine WL.nil ?_
  refine WT.cond rfl (fun c1 => ?_) (fun c1 => ?_)
  · replace h := ite_t h c1
    refine WT.skip ?_
    refine WT.seq ?_
    refine WT.block ?_
    refine WT.seq ?_
    refine WT.region ?_
    refine lq (q_move rfl) rfl ?_
    refine lq (q_move rfl) rfl ?_
    refine lq (q_move rfl) rfl ?_
    obtain ⟨x1, hx1, h⟩ := bind_some h
    obtain ⟨cs1, F1, D2, h1, r1, kf1, sp1⟩ := k1.focus hx1
    obtain ⟨v1, rfl, rfl, h2⟩ := r1
    refine WL.conv (S' := St w0 Φ_1 [] [ob v1, D2, ob pv0]) (fun w1 hw => hw.re (js := [1]) (Bs := [ob v1, D2]) rfl (by simpa [List.append_assoc] using sp1)) ?_
    refine lq (q_indexAddrH Sl_49 rfl rfl h1 hx1) rfl ?_
    refine lq (q_fieldAddr Fld_146_0 rfl) rfl ?_
    refine lu (u_setH (js := [2]) (Rr := [ob v1, D2]) (o := 0) (vs := [.int .i64 s2]) (cs' := [.int .i64 s2, .string x1.Name, v1, .int .i64 x1.N, .string x1.Undo]) OTAct.lasts Sz_3 rfl rfl rfl rfl ⟨rfl, trivial⟩ rfl h1 rfl rfl (fun ap => (ap.r (i := 1) rfl))) rfl (fun Φ_2 D3 q1 => ?_)
    obtain ⟨⟨ap1, fr1⟩, h3⟩ := q1
    replace h2 := h2.frame RTExpr.lasts fr1 (ap1.r (i := 0) rfl) (Dj.nil _)
    refine WL.nil ?_
    refine WT.seq ?_
    refine WT.region ?_
    refine lq (q_move rfl) rfl ?_
    refine lq (q_add rfl rfl) rfl ?_
    refine lq (q_assign rfl) rfl ?_
    refine WL.nil ?_
    refine WT.seq ?_
    refine WT.region ?_
    refine lq (q_move rfl) rfl ?_
    refine lq (q_move rfl) rfl ?_
    refine lq (q_move rfl) rfl ?_
    obtain ⟨x2, hx2, h⟩ := bind_some h
    refine lp (p_call Fun_69 rfl (fun w1 hw => m_l_markText_ok hw.fro N (IntKind.i64.wrap (s2 + 1)) hx2)) rfl ?_
    refine lq (q_indexAddrH Sl_49 rfl rfl h3 hx1) rfl ?_
    refine lq (q_fieldAddr Fld_146_1 rfl) rfl ?_
    refine lu (u_setH (js := [0]) (Rr := [ob v1, D2]) (o := 1) (vs := [.string x2]) (cs' := [.int .i64 s2, .string x2, v1, .int .i64 x1.N, .string x1.Undo]) OTAct.lasts Sz_9 rfl rfl rfl rfl ⟨rfl, trivial⟩ rfl h3 rfl rfl (fun ap => (ap.r (i := 1) rfl))) rfl (fun Φ_3 D4 q2 => ?_)
    obtain ⟨⟨ap2, fr2⟩, h4⟩ := q2
    replace h2 := h2.frame RTExpr.lasts fr2 (ap2.r (i := 0) rfl) (Dj.nil _)
    refine WL.nil ?_
    refine WT.seq ?_
    refine WT.region ?_
    refine lq (q_move rfl) rfl ?_
    refine lq (q_add rfl rfl) rfl ?_
    refine lq (q_assign rfl) rfl ?_
    refine WL.nil ?_
    refine WT.seq ?_
    refine WT.region ?_
    refine lq (q_move rfl) rfl ?_
    refine lq (q_move rfl) rfl ?_
    refine lq (q_indexAddrH Sl_49 rfl rfl h4 hx1) rfl ?_
    refine lq (q_fieldAddr Fld_146_2 rfl) rfl ?_
    refine lq (q_load1 T1_144 rfl (fun w1 hw => (h4.rg.of_eq 2 1 rfl rfl : rg _ _ _ [v1]).rangeAt hw.fro)) rfl ?_
    refine lq (q_move rfl) rfl ?_
    obtain ⟨x3, hx3, h⟩ := bind_some h
    refine lc (k_call (js := [1]) (R := [ob pv0, D2]) Fun_117 rfl rfl (fun w1 hw ap hl => m_l_markExprS_ok hw.fro N x1.Args (IntKind.i64.wrap ((IntKind.i64.wrap (s2 + 1)) + 1)) h2 ap.nd hl hx3)) rfl (fun v2 Φ_4 F2 q3 => ?_)
    obtain ⟨ap3, fr3, rfl, rfl, h5⟩ := q3
    replace h4 := h4.frame OTAct.lasts fr3 (ap3.r (i := 0) rfl) (ap3.r (i := 1) rfl)
    refine lq (q_assign rfl) rfl ?_
    refine WL.nil ?_
    refine WT.seq ?_
    refine WT.region ?_
    refine lq (q_move rfl) rfl ?_
    refine lq (q_move rfl) rfl ?_
    refine lq (q_move rfl) rfl ?_
    refine lq (q_indexAddrH Sl_49 rfl rfl h4 hx1) rfl ?_
    refine lq (q_fieldAddr Fld_146_3 rfl) rfl ?_
    refine lu (u_setH (js := [1]) (Rr := [ob v1, D2]) (o := 3) (vs := [.int .i64 x3.1]) (cs' := [.int .i64 s2, .string x2, v1, .int .i64 x3.1, .string x1.Undo]) OTAct.lasts Sz_3 rfl rfl rfl rfl ⟨rfl, trivial⟩ rfl h4 rfl rfl (fun ap => (ap.r (i := 1) rfl))) rfl (fun Φ_5 D5 q4 => ?_)
    obtain ⟨⟨ap4, fr4⟩, h6⟩ := q4
    replace h5 := h5.frame RTExpr.lasts fr4 (ap4.r (i := 0) rfl) (Dj.nil _)
    refine WL.nil ?_
    refine WT.seq ?_
    refine WT.region ?_
    refine lq (q_move rfl) rfl ?_
    refine lq (q_add rfl rfl) rfl ?_
    refine lq (q_assign rfl) rfl ?_
    refine WL.nil ?_
    refine WT.seq ?_
    refine WT.region ?_
    refine lq (q_move rfl) rfl ?_
    refine lq (q_move rfl) rfl ?_
    refine lq (q_move rfl) rfl ?_
    obtain ⟨x4, hx4, h⟩ := bind_some h
    refine lp (p_call Fun_69 rfl (fun w1 hw => m_l_markText_ok hw.fro N (IntKind.i64.wrap (x3.1 + 1)) hx4)) rfl ?_
    refine lq (q_indexAddrH Sl_49 rfl rfl h6 hx1) rfl ?_
    refine lq (q_fieldAddr Fld_146_4 rfl) rfl ?_
    refine lu (u_setH (js := [0]) (Rr := [ob v1, D2]) (o := 4) (vs := [.string x4]) (cs' := [.int .i64 s2, .string x2, v1, .int .i64 x3.1, .string x4]) OTAct.lasts Sz_9 rfl rfl rfl rfl ⟨rfl, trivial⟩ rfl h6 rfl rfl (fun ap => (ap.r (i := 1) rfl))) rfl (fun Φ_6 D6 q5 => ?_)
    obtain ⟨⟨ap5, fr5⟩, h7⟩ := q5
    replace h5 := h5.frame RTExpr.lasts fr5 (ap5.r (i := 0) rfl) (Dj.nil _)
    refine WL.nil ?_
    refine WT.region ?_
    refine lq (q_move rfl) rfl ?_
    refine lq (q_add rfl rfl) rfl ?_
    refine lq (q_assign rfl) rfl ?_
    refine WL.nil ?_
    refine WT.inBlock ?_
    refine WT.region ?_
    refine lq (q_move rfl) rfl ?_
    refine lq (q_add rfl rfl) rfl ?_
    refine lq (q_assign rfl) rfl ?_
    refine WL.nil ?_
    have r2 : OTAct Φ_6 _ [.int .i64 s2, .string x2, v1, .int .i64 x3.1, .string x4] (⟨s2, x2, x3.2, x3.1, x4⟩ : TAct) := ⟨v1, rfl, rfl, h5⟩
    obtain ⟨D7, h8, sp2⟩ := h7.unfocus r2 (OTAct.knows _ _ _ _ r2)
    refine WT.conv (S' := St w0 Φ_6 [] [D7, ob pv0]) (fun w1 hw => hw.merge (js := [1, 1]) rfl (by simpa [List.append_assoc, ob_nil] using sp2)) ?_
    refine WT.inLoop (WT.mono (l' := [(0, pv0), (1, .int .i64 (IntKind.i64.wrap ((IntKind.i64.wrap (x3.1 + 1)) + 1))), (5, .int .i64 (IntKind.i64.wrap (s3 + 1)))]) (S' := St w0 Φ_6 [] [ob pv0, D7]) ⟨rfl, rfl, rfl, trivial⟩ (fun w1 hw => (hw.sel (js := [1, 0]) rfl).selO (js := []) rfl) ?_)
    exact ih1 (Φ_6, (s1.set s3.toNat (⟨s2, x2, x3.2, x3.1, x4⟩ : TAct)), D7, IntKind.i64.wrap ((IntKind.i64.wrap (x3.1 + 1)) + 1), IntKind.i64.wrap (s3 + 1)) ⟨h, h8⟩
  replace h := ite_f h c1
  refine WT.exit rfl ?_
  refine WT.seq ?_
  refine WT.region ?_
  refine lq (q_move rfl) rfl ?_
  refine lq (q_assign rfl) rfl ?_
  refine WL.nil ?_
  refine WT.ret Try.func67 (resOk.one rfl) (fun w1 hw => ?_)
  subst hb0
  cases h
  refine postG_of_St (js := [0, 0]) hw rfl ⟨D1, rfl, rfl, k1⟩
theorem m_l_markRule_ok {Φ : Hp} {w : World} (hΦ : In Φ w) (N : Nat) (p0 : TRule) (p1 : Int) {pv0_0 : Value} {pD0_0 : List Nat} {pv0_1 : Value} {pv0_2 : Value} {pD0_2 : List Nat} (ph0_0 : OSl OTPat 94 3 Φ pD0_0 pv0_0 p0.Pats) (ph0_1 : OSl RTCond 142 11 Φ [] pv0_1 p0.Conds) (ph0_2 : OSl OTAct 146 5 Φ pD0_2 pv0_2 p0.Acts) (hB : [ob pv0_0, pD0_0, ob pv0_1, ob pv0_2, pD0_2].flatten.Nodup) (hlt : ∀ k ∈ [ob pv0_0, pD0_0, ob pv0_1, ob pv0_2, pD0_2].flatten, k < w.heap.size) {r : Int × (List TPat) × (List TCond) × (List TAct)} (h : m_l_markRule N p0 p1 = some r) :
    Calls Try.prog 22 [.agg [.string p0.Name, .int .i64 p0.Sal, pv0_0, pv0_1, pv0_2].toArray, .int .i64 p1].toArray w (PostG Φ w [ob pv0_0, pD0_0, ob pv0_1, ob pv0_2, pD0_2].flatten (fun Φ' Fs v => ∃ (Do_0_0 : List Nat) (Do_2_0 : List Nat), v = .int .i64 r.1 ∧ Fs = [ob pv0_0, Do_0_0, ob pv0_1, ob pv0_2, Do_2_0] ∧ OSl OTPat 94 3 Φ' Do_0_0 pv0_0 r.2.1 ∧ OSl RTCond 142 11 Φ' [] pv0_1 r.2.2.1 ∧ OSl OTAct 146 5 Φ' Do_2_0 pv0_2 r.2.2.2)) := by
  refine enter Try.func22 rfl Try.ntmps22 rfl (St.start hΦ [ob pv0_0, pD0_0, ob pv0_1, ob pv0_2, pD0_2] hB hlt) ?_
  unfold m_l_markRule at h
  refine WT.seq ?_
  refine WT.region ?_
  refine ln (n_box (C := #[.string p0.Name, .int .i64 p0.Sal, pv0_0, pv0_1, pv0_2]) rfl rfl) rfl (fun b_1 => ?_)
  refine lq (q_assign rfl) rfl ?_
  refine WL.nil ?_
  refine WT.seq ?_
  refine WT.region ?_
  refine lq (q_fieldAddr Fld_51_2 rfl) rfl ?_
  refine lq (q_load1 T1_47 rfl (fun w1 hw => hw.rgO (i := 0) rfl 2 1 [pv0_0] rfl)) rfl ?_
  refine lq (q_move rfl) rfl ?_
  obtain ⟨x1, hx1, h⟩ := bind_some h
  refine lc (k_call (js := [0, 0]) (R := [ob pv0_1, ob pv0_2, pD0_2]) Fun_65 rfl rfl (fun w1 hw ap hl => m_l_markPatS_ok hw.fro N p0.Pats p1 ph0_0 ap.nd hl hx1)) rfl (fun v1 Φ_1 F1 q1 => ?_)
  obtain ⟨ap1, fr1, D1, rfl, rfl, h1⟩ := q1
  replace ph0_1 := ph0_1.frame RTCond.lasts fr1 (ap1.r (i := 0) rfl) (Dj.nil _)
  replace ph0_2 := ph0_2.frame OTAct.lasts fr1 (ap1.r (i := 1) rfl) (ap1.r (i := 2) rfl)
  refine lq (q_assign rfl) rfl ?_
  refine WL.nil ?_
  refine WT.seq ?_
  refine WT.region ?_
  refine lq (q_fieldAddr Fld_51_3 rfl) rfl ?_
  refine lq (q_load1 T1_48 rfl (fun w1 hw => hw.rgO (i := 0) rfl 3 1 [pv0_1] rfl)) rfl ?_
  refine lq (q_move rfl) rfl ?_
  obtain ⟨x2, hx2, h⟩ := bind_some h
  refine lc (k_call (js := [2]) (R := [ob pv0_0, D1, ob pv0_2, pD0_2]) Fun_66 rfl rfl (fun w1 hw ap hl => m_l_markCondS_ok hw.fro N p0.Conds x1.1 ph0_1 ap.nd hl hx2)) rfl (fun v2 Φ_2 F2 q2 => ?_)
  obtain ⟨ap2, fr2, rfl, rfl, h2⟩ := q2
  replace h1 := h1.frame OTPat.lasts fr2 (ap2.r (i := 0) rfl) (ap2.r (i := 1) rfl)
  replace ph0_2 := ph0_2.frame OTAct.lasts fr2 (ap2.r (i := 2) rfl) (ap2.r (i := 3) rfl)
  refine lq (q_assign rfl) rfl ?_
  refine WL.nil ?_
  refine WT.seq ?_
  refine WT.region ?_
  refine lq (q_fieldAddr Fld_51_4 rfl) rfl ?_
  refine lq (q_load1 T1_49 rfl (fun w1 hw => hw.rgO (i := 0) rfl 4 1 [pv0_2] rfl)) rfl ?_
  refine lq (q_move rfl) rfl ?_
  obtain ⟨x3, hx3, h⟩ := bind_some h
  refine lc (k_call (js := [3, 3]) (R := [ob pv0_1, ob pv0_0, D1]) Fun_67 rfl rfl (fun w1 hw ap hl => m_l_markActS_ok hw.fro N p0.Acts x2.1 ph0_2 ap.nd hl hx3)) rfl (fun v3 Φ_3 F3 q3 => ?_)
  obtain ⟨ap3, fr3, D2, rfl, rfl, h3⟩ := q3
  replace h1 := h1.frame OTPat.lasts fr3 (ap3.r (i := 1) rfl) (ap3.r (i := 2) rfl)
  replace h2 := h2.frame RTCond.lasts fr3 (ap3.r (i := 0) rfl) (Dj.nil _)
  refine lq (q_assign rfl) rfl ?_
  refine WL.nil ?_
  refine WT.seq ?_
  refine WT.region ?_
  refine lq (q_move rfl) rfl ?_
  refine lq (q_assign rfl) rfl ?_
  refine WL.nil ?_
  refine WT.ret Try.func22 (resOk.one rfl) (fun w1 hw => ?_)
  cases h
  refine postG_of_St (js := [3, 3, 2, 0, 0]) hw rfl ⟨D1, D2, rfl, rfl, h1, h2, h3⟩
theorem m_l_markValS_ok {Φ : Hp} {w : World} (hΦ : In Φ w) (N : Nat) (p0 : (List TVal)) (p1 : Int) {pv0 : Value} (ph0 : OSl RTVal 109 3 Φ [] pv0 p0) (hB : [ob pv0].flatten.Nodup) (hlt : ∀ k ∈ [ob pv0].flatten, k < w.heap.size) {r : Int × (List TVal)} (h : m_l_markValS N p0 p1 = some r) :
    Calls Try.prog 118 [pv0, .int .i64 p1].toArray w (PostG Φ w [ob pv0].flatten (fun Φ' Fs v => v = .int .i64 r.1 ∧ Fs = [ob pv0] ∧ OSl RTVal 109 3 Φ' [] pv0 r.2)) := by
  refine enter Try.func118 rfl Try.ntmps118 rfl (St.start hΦ [ob pv0] hB hlt) ?_
  generalize hb0 : (⟨w, [ob pv0].flatten, Φ⟩ : Base) = w0
  unfold m_l_markValS at h
  refine WT.seq ?_
  refine WT.region ?_
  refine lq (q_assign rfl) rfl ?_
  refine WL.nil ?_
  refine WT.seq ?_
  refine WT.seq ?_
  refine WT.region ?_
  refine lq (q_assign rfl) rfl ?_
  refine WL.nil ?_
  refine WT.block ?_
  refine WT.loop ?_
  refine WT.mono (l' := [(0, pv0), (1, .int .i64 p1), (5, .int .i64 0)]) (S' := St w0 Φ [] [ob pv0]) ⟨rfl, rfl, rfl, trivial⟩ (fun w1 hw => (hw.sel (js := [0]) rfl).selO (js := []) rfl) ?_
  refine loop_ind (σ := Hp × (List TVal) × Int × Int) (fun s => [(0, pv0), (1, .int .i64 s.2.2.1), (5, .int .i64 s.2.2.2)]) (fun s => St w0 s.1 [] [ob pv0]) (fun m s => m_l_markValS_l1 N m s.2.1 s.2.2.1 s.2.2.2 = some r ∧ (OSl RTVal 109 3 s.1 [] pv0 s.2.1)) (fun s hm => none_ne (show (none : Option (Int × (List TVal))) = some r from hm.1)) (fun n1 ih1 s hm => ?_) N (Φ, p0, p1, 0) ⟨h, ph0⟩
  obtain ⟨Φ_1, s1, s2, s3⟩ := s
  obtain ⟨h, k1⟩ := hm
  replace h : m_l_markValS_l1 N (n1 + 1) s1 s2 s3 = some r := h
  replace k1 : OSl RTVal 109 3 Φ_1 [] pv0 s1 := k1
  show WT _ _ [(0, pv0), (1, .int .i64 s2), (5, .int .i64 s3)] (St w0 Φ_1 [] [ob pv0])
  unfold m_l_markValS_l1 at h
  refine WT.seq ?_
  refine WT.seq ?_
  refine WT.region ?_
  refine lq (q_move rfl) rfl ?_
  refine lq (q_move rfl) rfl ?_
  refine lq (q_lenR Sl_95 rfl rfl k1.rsl) rfl ?_
  refine lq (q_lss rfl rfl) rfl ?_
  refine WL.nil ?_
  refine WT.cond rfl (fun c1 => ?_) (fun c1 => ?_)
  · replace h := ite_t h c1
    refine WT.skip ?_
    refine WT.seq ?_
    refine WT.block ?_
    refine WT.seq ?_
    refine WT.region ?_
    refine lq (q_move rfl) rfl ?_
    refine lq (q_move rfl) rfl ?_
    refine lq (q_move rfl) rfl ?_
    obtain ⟨x1, hx1, h⟩ := bind_some h
    obtain ⟨cs1, F1, h1, r1⟩ := k1.focusF RTVal.flat hx1
    obtain ⟨rfl, -⟩ := r1
    refine lq (q_indexAddrH Sl_95 rfl rfl h1 hx1) rfl ?_
    refine lq (q_fieldAddr Fld_109_0 rfl) rfl ?_
    refine lu (u_setH (js := [0]) (Rr := []) (o := 0) (vs := [.int .i64 s2]) (cs' := [.int .i64 s2, .int .i64 x1.N, .string x1.S]) RTVal.lasts Sz_3 rfl rfl rfl rfl ⟨rfl, trivial⟩ rfl h1 rfl rfl (fun ap => (Dj.nil _))) rfl (fun Φ_2 D2 q1 => ?_)
    obtain ⟨⟨ap1, fr1⟩, h2⟩ := q1
    refine WL.nil ?_
    refine WT.seq ?_
    refine WT.region ?_
    refine lq (q_move rfl) rfl ?_
    refine lq (q_add rfl rfl) rfl ?_
    refine lq (q_assign rfl) rfl ?_
    refine WL.nil ?_
    refine WT.seq ?_
    refine WT.region ?_
    refine lq (q_move rfl) rfl ?_
    refine lq (q_move rfl) rfl ?_
    refine lq (q_move rfl) rfl ?_
    refine lq (q_indexAddrH Sl_95 rfl rfl h2 hx1) rfl ?_
    refine lq (q_fieldAddr Fld_109_1 rfl) rfl ?_
    refine lu (u_setH (js := [0]) (Rr := []) (o := 1) (vs := [.int .i64 (IntKind.i64.wrap (s2 + 1))]) (cs' := [.int .i64 s2, .int .i64 (IntKind.i64.wrap (s2 + 1)), .string x1.S]) RTVal.lasts Sz_3 rfl rfl rfl rfl ⟨rfl, trivial⟩ rfl h2 rfl rfl (fun ap => (Dj.nil _))) rfl (fun Φ_3 D3 q2 => ?_)
    obtain ⟨⟨ap2, fr2⟩, h3⟩ := q2
    refine WL.nil ?_
    refine WT.seq ?_
    refine WT.region ?_
    refine lq (q_move rfl) rfl ?_
    refine lq (q_add rfl rfl) rfl ?_
    refine lq (q_assign rfl) rfl ?_
    refine WL.nil ?_
    refine WT.seq ?_
    refine WT.region ?_
    refine lq (q_move rfl) rfl ?_
    refine lq (q_move rfl) rfl ?_
    refine lq (q_move rfl) rfl ?_
    obtain ⟨x2, hx2, h⟩ := bind_some h
    refine lp (p_call Fun_69 rfl (fun w1 hw => m_l_markText_ok hw.fro N (IntKind.i64.wrap ((IntKind.i64.wrap (s2 + 1)) + 1)) hx2)) rfl ?_
    refine lq (q_indexAddrH Sl_95 rfl rfl h3 hx1) rfl ?_
    refine lq (q_fieldAddr Fld_109_2 rfl) rfl ?_
    refine lu (u_setH (js := [0]) (Rr := []) (o := 2) (vs := [.string x2]) (cs' := [.int .i64 s2, .int .i64 (IntKind.i64.wrap (s2 + 1)), .string x2]) RTVal.lasts Sz_9 rfl rfl rfl rfl ⟨rfl, trivial⟩ rfl h3 rfl rfl (fun ap => (Dj.nil _))) rfl (fun Φ_4 D4 q3 => ?_)
    obtain ⟨⟨ap3, fr3⟩, h4⟩ := q3
    refine WL.nil ?_
    refine WT.region ?_
    refine lq (q_move rfl) rfl ?_
    refine lq (q_add rfl rfl) rfl ?_
    refine lq (q_assign rfl) rfl ?_
    refine WL.nil ?_
    refine WT.inBlock ?_
    refine WT.region ?_
    refine lq (q_move rfl) rfl ?_
    refine lq (q_add rfl rfl) rfl ?_
    refine lq (q_assign rfl) rfl ?_
    refine WL.nil ?_
    have h5 := h4.unfocusF RTVal.flat (cs := [.int .i64 s2, .int .i64 (IntKind.i64.wrap (s2 + 1)), .string x2]) (x' := (⟨s2, IntKind.i64.wrap (s2 + 1), x2⟩ : TVal)) ⟨rfl, rfl⟩
    refine WT.inLoop (WT.mono (l' := [(0, pv0), (1, .int .i64 (IntKind.i64.wrap ((IntKind.i64.wrap ((IntKind.i64.wrap (s2 + 1)) + 1)) + 1))), (5, .int .i64 (IntKind.i64.wrap (s3 + 1)))]) (S' := St w0 Φ_4 [] [ob pv0]) ⟨rfl, rfl, rfl, trivial⟩ (fun w1 hw => (hw.sel (js := [0]) rfl).selO (js := []) rfl) ?_)
    exact ih1 (Φ_4, (s1.set s3.toNat (⟨s2, IntKind.i64.wrap (s2 + 1), x2⟩ : TVal)), IntKind.i64.wrap ((IntKind.i64.wrap ((IntKind.i64.wrap (s2 + 1)) + 1)) + 1), IntKind.i64.wrap (s3 + 1)) ⟨h, h5⟩
  replace h := ite_f h c1
  refine WT.exit rfl ?_
  refine WT.seq ?_
  refine WT.region ?_
  refine lq (q_move rfl) rfl ?_
  refine lq (q_assign rfl) rfl ?_
  refine WL.nil ?_
  refine WT.ret Try.func118 (resOk.one rfl) (fun w1 hw => ?_)
  subst hb0
  cases h
  refine postG_of_St (js := [0]) hw rfl ⟨rfl, rfl, k1⟩
theorem m_l_markItemS_ok {Φ : Hp} {w : World} (hΦ : In Φ w) (N : Nat) (p0 : (List TItem)) (p1 : Int) {pv0 : Value} {pD0 : List Nat} (ph0 : OSl OTItem 171 3 Φ pD0 pv0 p0) (hB : [ob pv0, pD0].flatten.Nodup) (hlt : ∀ k ∈ [ob pv0, pD0].flatten, k < w.heap.size) {r : Int × (List TItem)} (h : m_l_markItemS N p0 p1 = some r) :
    Calls Try.prog 68 [pv0, .int .i64 p1].toArray w (PostG Φ w [ob pv0, pD0].flatten (fun Φ' Fs v => ∃ (Do_0_0 : List Nat), v = .int .i64 r.1 ∧ Fs = [ob pv0, Do_0_0] ∧ OSl OTItem 171 3 Φ' Do_0_0 pv0 r.2)) := by
  refine enter Try.func68 rfl Try.ntmps68 rfl (St.start hΦ [ob pv0, pD0] hB hlt) ?_
  generalize hb0 : (⟨w, [ob pv0, pD0].flatten, Φ⟩ : Base) = w0
  unfold m_l_markItemS at h
  refine WT.seq ?_
  refine WT.region ?_
  refine lq (q_assign rfl) rfl ?_
  refine WL.nil ?_
  refine WT.seq ?_
  refine WT.seq ?_
  refine WT.region ?_
  refine lq (q_assign rfl) rfl ?_
  refine WL.nil ?_
  refine WT.block ?_
  refine WT.loop ?_
  refine WT.mono (l' := [(0, pv0), (1, .int .i64 p1), (5, .int .i64 0)]) (S' := St w0 Φ [] [ob pv0, pD0]) ⟨rfl, rfl, rfl, trivial⟩ (fun w1 hw => (hw.sel (js := [0, 0]) rfl).selO (js := []) rfl) ?_
  refine loop_ind (σ := Hp × (List TItem) × List Nat × Int × Int) (fun s => [(0, pv0), (1, .int .i64 s.2.2.2.1), (5, .int .i64 s.2.2.2.2)]) (fun s => St w0 s.1 [] [ob pv0, s.2.2.1]) (fun m s => m_l_markItemS_l1 N m s.2.1 s.2.2.2.1 s.2.2.2.2 = some r ∧ (OSl OTItem 171 3 s.1 s.2.2.1 pv0 s.2.1)) (fun s hm => none_ne (show (none : Option (Int × (List TItem))) = some r from hm.1)) (fun n1 ih1 s hm => ?_) N (Φ, p0, pD0, p1, 0) ⟨h, ph0⟩
  obtain ⟨Φ_1, s1, D1, s2, s3⟩ := s
  obtain ⟨h, k1⟩ := hm
  replace h : m_l_markItemS_l1 N (n1 + 1) s1 s2 s3 = some r := h
  replace k1 : OSl OTItem 171 3 Φ_1 D1 pv0 s1 := k1
  show WT _ _ [(0, pv0), (1, .int .i64 s2), (5, .int .i64 s3)] (St w0 Φ_1 [] [ob pv0, D1])
  unfold m_l_markItemS_l1 at h
  refine WT.seq ?_
  refine WT.seq ?_
  refine WT.region ?_
  refine lq (q_move rfl) rfl ?_
  refine lq (q_move rfl) rfl ?_
  refine lq (q_lenR Sl_53 rfl rfl (k1.rslG OTItem.gives)) rfl ?_
  refine lq (q_lss rfl rfl) rfl ?_
  refine WL.nil ?_
  refine WT.cond rfl (fun c1 => ?_) (fun c1 => ?_)
  · replace h := ite_t h c1
    refine WT.skip ?_
    refine WT.seq ?_
    refine WT.block ?_
    refine WT.seq ?_
    refine WT.region ?_
    refine lq (q_move rfl) rfl ?_
    refine lq (q_move rfl) rfl ?_
    refine lq (q_move rfl) rfl ?_
    obtain ⟨x1, hx1, h⟩ := bind_some h
    obtain ⟨cs1, F1, D2, h1, r1, kf1, sp1⟩ := k1.focus hx1
    obtain ⟨v1, rfl, rfl, h2⟩ := r1
    refine WL.conv (S' := St w0 Φ_1 [] [ob v1, D2, ob pv0]) (fun w1 hw => hw.re (js := [1]) (Bs := [ob v1, D2]) rfl (by simpa [List.append_assoc] using sp1)) ?_
    refine lq (q_indexAddrH Sl_53 rfl rfl h1 hx1) rfl ?_
    refine lq (q_fieldAddr Fld_171_0 rfl) rfl ?_
    refine lu (u_setH (js := [2]) (Rr := [ob v1, D2]) (o := 0) (vs := [.int .i64 s2]) (cs' := [.int .i64 s2, .string x1.F.Kind, v1]) OTItem.lasts Sz_3 rfl rfl rfl rfl ⟨rfl, trivial⟩ rfl h1 rfl rfl (fun ap => (ap.r (i := 1) rfl))) rfl (fun Φ_2 D3 q1 => ?_)
    obtain ⟨⟨ap1, fr1⟩, h3⟩ := q1
    replace h2 := h2.frame RTVal.lasts fr1 (ap1.r (i := 0) rfl) (Dj.nil _)
    refine WL.nil ?_
    refine WT.seq ?_
    refine WT.region ?_
    refine lq (q_move rfl) rfl ?_
    refine lq (q_add rfl rfl) rfl ?_
    refine lq (q_assign rfl) rfl ?_
    refine WL.nil ?_
    refine WT.seq ?_
    refine WT.region ?_
    refine lq (q_move rfl) rfl ?_
    refine lq (q_move rfl) rfl ?_
    refine lq (q_move rfl) rfl ?_
    obtain ⟨x2, hx2, h⟩ := bind_some h
    refine lp (p_call Fun_69 rfl (fun w1 hw => m_l_markText_ok hw.fro N (IntKind.i64.wrap (s2 + 1)) hx2)) rfl ?_
    refine lq (q_indexAddrH Sl_53 rfl rfl h3 hx1) rfl ?_
    refine lq (q_fieldAddr Fld_171_1 rfl) rfl ?_
    refine lq (q_fieldAddr Fld_97_0 rfl) rfl ?_
    refine lu (u_setH (js := [0]) (Rr := [ob v1, D2]) (o := 1) (vs := [.string x2]) (cs' := [.int .i64 s2, .string x2, v1]) OTItem.lasts Sz_9 rfl rfl rfl rfl ⟨rfl, trivial⟩ rfl h3 rfl rfl (fun ap => (ap.r (i := 1) rfl))) rfl (fun Φ_3 D4 q2 => ?_)
    obtain ⟨⟨ap2, fr2⟩, h4⟩ := q2
    replace h2 := h2.frame RTVal.lasts fr2 (ap2.r (i := 0) rfl) (Dj.nil _)
    refine WL.nil ?_
    refine WT.seq ?_
    refine WT.region ?_
    refine lq (q_move rfl) rfl ?_
    refine lq (q_add rfl rfl) rfl ?_
    refine lq (q_assign rfl) rfl ?_
    refine WL.nil ?_
    refine WT.region ?_
    refine lq (q_move rfl) rfl ?_
    refine lq (q_move rfl) rfl ?_
    refine lq (q_indexAddrH Sl_53 rfl rfl h4 hx1) rfl ?_
    refine lq (q_fieldAddr Fld_171_1 rfl) rfl ?_
    refine lq (q_fieldAddr Fld_97_1 rfl) rfl ?_
    refine lq (q_load1 T1_95 rfl (fun w1 hw => (h4.rg.of_eq 2 1 (by omega) rfl : rg _ _ _ [v1]).rangeAt hw.fro)) rfl ?_
    refine lq (q_move rfl) rfl ?_
    obtain ⟨x3, hx3, h⟩ := bind_some h
    refine lc (k_call (js := [1]) (R := [ob pv0, D2]) Fun_118 rfl rfl (fun w1 hw ap hl => m_l_markValS_ok hw.fro N x1.F.Fields (IntKind.i64.wrap ((IntKind.i64.wrap (s2 + 1)) + 1)) h2 ap.nd hl hx3)) rfl (fun v2 Φ_4 F2 q3 => ?_)
    obtain ⟨ap3, fr3, rfl, rfl, h5⟩ := q3
    replace h4 := h4.frame OTItem.lasts fr3 (ap3.r (i := 0) rfl) (ap3.r (i := 1) rfl)
    refine lq (q_assign rfl) rfl ?_
    refine WL.nil ?_
    refine WT.inBlock ?_
    refine WT.region ?_
    refine lq (q_move rfl) rfl ?_
    refine lq (q_add rfl rfl) rfl ?_
    refine lq (q_assign rfl) rfl ?_
    refine WL.nil ?_
    have r2 : OTItem Φ_4 _ [.int .i64 s2, .string x2, v1] (⟨s2, (⟨x2, x3.2⟩ : TFact)⟩ : TItem) := ⟨v1, rfl, rfl, h5⟩
    obtain ⟨D5, h6, sp2⟩ := h4.unfocus r2 (OTItem.knows _ _ _ _ r2)
    refine WT.conv (S' := St w0 Φ_4 [] [D5, ob pv0]) (fun w1 hw => hw.merge (js := [0, 1]) rfl (by simpa [List.append_assoc, ob_nil] using sp2)) ?_
    refine WT.inLoop (WT.mono (l' := [(0, pv0), (1, .int .i64 x3.1), (5, .int .i64 (IntKind.i64.wrap (s3 + 1)))]) (S' := St w0 Φ_4 [] [ob pv0, D5]) ⟨rfl, rfl, rfl, trivial⟩ (fun w1 hw => (hw.sel (js := [1, 0]) rfl).selO (js := []) rfl) ?_)
    exact ih1 (Φ_4, (s1.set s3.toNat (⟨s2, (⟨x2, x3.2⟩ : TFact)⟩ : TItem)), D5, x3.1, IntKind.i64.wrap (s3 + 1)) ⟨h, h6⟩
  replace h := ite_f h c1
  refine WT.exit rfl ?_
  refine WT.seq ?_
  refine WT.region ?_
  refine lq (q_move rfl) rfl ?_
  refine lq (q_assign rfl) rfl ?_
  refine WL.nil ?_
  refine WT.ret Try.func68 (resOk.one rfl) (fun w1 hw => ?_)
  subst hb0
  cases h
  refine postG_of_St (js := [0, 0]) hw rfl ⟨D1, rfl, rfl, k1⟩
theorem m_l_markStore_ok {Φ : Hp} {w : World} (hΦ : In Φ w) (N : Nat) (p0 : TStore) (p1 : Int) {pv0_0 : Value} {pD0_0 : List Nat} (ph0_0 : OSl OTItem 171 3 Φ pD0_0 pv0_0 p0.Items) (hB : [ob pv0_0, pD0_0].flatten.Nodup) (hlt : ∀ k ∈ [ob pv0_0, pD0_0].flatten, k < w.heap.size) {r : Int × (List TItem)} (h : m_l_markStore N p0 p1 = some r) :
    Calls Try.prog 23 [.agg [pv0_0, .int .i64 p0.Next].toArray, .int .i64 p1].toArray w (PostG Φ w [ob pv0_0, pD0_0].flatten (fun Φ' Fs v => ∃ (Do_0_0 : List Nat), v = .int .i64 r.1 ∧ Fs = [ob pv0_0, Do_0_0] ∧ OSl OTItem 171 3 Φ' Do_0_0 pv0_0 r.2)) := by
  refine enter Try.func23 rfl Try.ntmps23 rfl (St.start hΦ [ob pv0_0, pD0_0] hB hlt) ?_
  unfold m_l_markStore at h
  refine WT.seq ?_
  refine WT.region ?_
  refine ln (n_box (C := #[pv0_0, .int .i64 p0.Next]) rfl rfl) rfl (fun b_1 => ?_)
  refine lq (q_assign rfl) rfl ?_
  refine WL.nil ?_
  refine WT.seq ?_
  refine WT.region ?_
  refine lq (q_fieldAddr Fld_55_0 rfl) rfl ?_
  refine lq (q_load1 T1_53 rfl (fun w1 hw => hw.rgO (i := 0) rfl 0 1 [pv0_0] rfl)) rfl ?_
  refine lq (q_move rfl) rfl ?_
  obtain ⟨x1, hx1, h⟩ := bind_some h
  refine lc (k_call (js := [0, 0]) (R := []) Fun_68 rfl rfl (fun w1 hw ap hl => m_l_markItemS_ok hw.fro N p0.Items p1 ph0_0 ap.nd hl hx1)) rfl (fun v1 Φ_1 F1 q1 => ?_)
  obtain ⟨ap1, fr1, D1, rfl, rfl, h1⟩ := q1
  refine lq (q_assign rfl) rfl ?_
  refine WL.nil ?_
  refine WT.seq ?_
  refine WT.region ?_
  refine lq (q_move rfl) rfl ?_
  refine lq (q_assign rfl) rfl ?_
  refine WL.nil ?_
  refine WT.ret Try.func23 (resOk.one rfl) (fun w1 hw => ?_)
  cases h
  refine postG_of_St (js := [0, 0]) hw rfl ⟨D1, rfl, rfl, h1⟩
theorem m_l_markIntS_ok {Φ : Hp} {w : World} (hΦ : In Φ w) (N : Nat) (p0 : (List Int)) (p1 : Int) {pv0 : Value} (ph0 : OSl (RI .i64) 3 1 Φ [] pv0 p0) (hB : [ob pv0].flatten.Nodup) (hlt : ∀ k ∈ [ob pv0].flatten, k < w.heap.size) {r : Int × (List Int)} (h : m_l_markIntS N p0 p1 = some r) :
    Calls Try.prog 24 [pv0, .int .i64 p1].toArray w (PostG Φ w [ob pv0].flatten (fun Φ' Fs v => v = .int .i64 r.1 ∧ Fs = [ob pv0] ∧ OSl (RI .i64) 3 1 Φ' [] pv0 r.2)) := by
  refine enter Try.func24 rfl Try.ntmps24 rfl (St.start hΦ [ob pv0] hB hlt) ?_
  generalize hb0 : (⟨w, [ob pv0].flatten, Φ⟩ : Base) = w0
  unfold m_l_markIntS at h
  refine WT.seq ?_
  refine WT.region ?_
  refine lq (q_assign rfl) rfl ?_
  refine WL.nil ?_
  refine WT.seq ?_
  refine WT.seq ?_
  refine WT.region ?_
  refine lq (q_assign rfl) rfl ?_
  refine WL.nil ?_
  refine WT.block ?_
  refine WT.loop ?_
  refine WT.mono (l' := [(0, pv0), (1, .int .i64 p1), (5, .int .i64 0)]) (S' := St w0 Φ [] [ob pv0]) ⟨rfl, rfl, rfl, trivial⟩ (fun w1 hw => (hw.sel (js := [0]) rfl).selO (js := []) rfl) ?_
  refine loop_ind (σ := Hp × (List Int) × Int × Int) (fun s => [(0, pv0), (1, .int .i64 s.2.2.1), (5, .int .i64 s.2.2.2)]) (fun s => St w0 s.1 [] [ob pv0]) (fun m s => m_l_markIntS_l1 N m s.2.1 s.2.2.1 s.2.2.2 = some r ∧ (OSl (RI .i64) 3 1 s.1 [] pv0 s.2.1)) (fun s hm => none_ne (show (none : Option (Int × (List Int))) = some r from hm.1)) (fun n1 ih1 s hm => ?_) N (Φ, p0, p1, 0) ⟨h, ph0⟩
  obtain ⟨Φ_1, s1, s2, s3⟩ := s
  obtain ⟨h, k1⟩ := hm
  replace h : m_l_markIntS_l1 N (n1 + 1) s1 s2 s3 = some r := h
  replace k1 : OSl (RI .i64) 3 1 Φ_1 [] pv0 s1 := k1
  show WT _ _ [(0, pv0), (1, .int .i64 s2), (5, .int .i64 s3)] (St w0 Φ_1 [] [ob pv0])
  unfold m_l_markIntS_l1 at h
  refine WT.seq ?_
  refine WT.seq ?_
  refine WT.region ?_
  refine lq (q_move rfl) rfl ?_
  refine lq (q_move rfl) rfl ?_
  refine lq (q_lenR Sl_41 rfl rfl k1.rsl) rfl ?_
  refine lq (q_lss rfl rfl) rfl ?_
  refine WL.nil ?_
  refine WT.cond rfl (fun c1 => ?_) (fun c1 => ?_)
  · replace h := ite_t h c1
    refine WT.skip ?_
    refine WT.seq ?_
    refine WT.block ?_
    refine WT.seq ?_
    refine WT.region ?_
    refine lq (q_move rfl) rfl ?_
    refine lq (q_move rfl) rfl ?_
    refine lq (q_move rfl) rfl ?_
    obtain ⟨x1, hx1, h⟩ := bind_some h
    obtain ⟨cs1, F1, -, g1, hb1, hs1, r1⟩ := k1.elS (idx_some hx1).2.2
    obtain ⟨rfl, -⟩ := r1
    refine lq (q_indexAddr Sl_41 rfl rfl k1.rsl hx1) rfl ?_
    refine lu (u_setF (js := [0]) (Rr := []) (vs := [.int .i64 s2]) (x' := s2) RI.lasts RI.flat Sz_3 rfl rfl rfl rfl ⟨rfl, trivial⟩ rfl k1 (idx_lt hx1) ⟨rfl, rfl⟩) rfl (fun Φ_2 D1 q1 => ?_)
    obtain ⟨⟨ap1, fr1⟩, h1⟩ := q1
    refine WL.nil ?_
    refine WT.region ?_
    refine lq (q_move rfl) rfl ?_
    refine lq (q_add rfl rfl) rfl ?_
    refine lq (q_assign rfl) rfl ?_
    refine WL.nil ?_
    refine WT.inBlock ?_
    refine WT.region ?_
    refine lq (q_move rfl) rfl ?_
    refine lq (q_add rfl rfl) rfl ?_
    refine lq (q_assign rfl) rfl ?_
    refine WL.nil ?_
    refine WT.inLoop (WT.mono (l' := [(0, pv0), (1, .int .i64 (IntKind.i64.wrap (s2 + 1))), (5, .int .i64 (IntKind.i64.wrap (s3 + 1)))]) (S' := St w0 Φ_2 [] [ob pv0]) ⟨rfl, rfl, rfl, trivial⟩ (fun w1 hw => (hw.sel (js := [0]) rfl).selO (js := []) rfl) ?_)
    exact ih1 (Φ_2, (s1.set s3.toNat s2), IntKind.i64.wrap (s2 + 1), IntKind.i64.wrap (s3 + 1)) ⟨h, h1⟩
  replace h := ite_f h c1
  refine WT.exit rfl ?_
  refine WT.seq ?_
  refine WT.region ?_
  refine lq (q_move rfl) rfl ?_
  refine lq (q_assign rfl) rfl ?_
  refine WL.nil ?_
  refine WT.ret Try.func24 (resOk.one rfl) (fun w1 hw => ?_)
  subst hb0
  cases h
  refine postG_of_St (js := [0]) hw rfl ⟨rfl, rfl, k1⟩
theorem m_l_markBindS_ok {Φ : Hp} {w : World} (hΦ : In Φ w) (N : Nat) (p0 : (List TBind)) (p1 : Int) {pv0 : Value} (ph0 : OSl RTBind 111 4 Φ [] pv0 p0) (hB : [ob pv0].flatten.Nodup) (hlt : ∀ k ∈ [ob pv0].flatten, k < w.heap.size) {r : Int × (List TBind)} (h : m_l_markBindS N p0 p1 = some r) :
    Calls Try.prog 25 [pv0, .int .i64 p1].toArray w (PostG Φ w [ob pv0].flatten (fun Φ' Fs v => v = .int .i64 r.1 ∧ Fs = [ob pv0] ∧ OSl RTBind 111 4 Φ' [] pv0 r.2)) := by
  refine enter Try.func25 rfl Try.ntmps25 rfl (St.start hΦ [ob pv0] hB hlt) ?_
  generalize hb0 : (⟨w, [ob pv0].flatten, Φ⟩ : Base) = w0
  unfold m_l_markBindS at h
  refine WT.seq ?_
  refine WT.region ?_
  refine lq (q_assign rfl) rfl ?_
  refine WL.nil ?_
  refine WT.seq ?_
  refine WT.seq ?_
  refine WT.region ?_
  refine lq (q_assign rfl) rfl ?_
  refine WL.nil ?_
  refine WT.block ?_
  refine WT.loop ?_
  refine WT.mono (l' := [(0, pv0), (1, .int .i64 p1), (5, .int .i64 0)]) (S' := St w0 Φ [] [ob pv0]) ⟨rfl, rfl, rfl, trivial⟩ (fun w1 hw => (hw.sel (js := [0]) rfl).selO (js := []) rfl) ?_
  refine loop_ind (σ := Hp × (List TBind) × Int × Int) (fun s => [(0, pv0), (1, .int .i64 s.2.2.1), (5, .int .i64 s.2.2.2)]) (fun s => St w0 s.1 [] [ob pv0]) (fun m s => m_l_markBindS_l1 N m s.2.1 s.2.2.1 s.2.2.2 = some r ∧ (OSl RTBind 111 4 s.1 [] pv0 s.2.1)) (fun s hm => none_ne (show (none : Option (Int × (List TBind))) = some r from hm.1)) (fun n1 ih1 s hm => ?_) N (Φ, p0, p1, 0) ⟨h, ph0⟩
  obtain ⟨Φ_1, s1, s2, s3⟩ := s
  obtain ⟨h, k1⟩ := hm
  replace h : m_l_markBindS_l1 N (n1 + 1) s1 s2 s3 = some r := h
  replace k1 : OSl RTBind 111 4 Φ_1 [] pv0 s1 := k1
  show WT _ _ [(0, pv0), (1, .int .i64 s2), (5, .int .i64 s3)] (St w0 Φ_1 [] [ob pv0])
  unfold m_l_markBindS_l1 at h
  refine WT.seq ?_
  refine WT.seq ?_
  refine WT.region ?_
  refine lq (q_move rfl) rfl ?_
  refine lq (q_move rfl) rfl ?_
  refine lq (q_lenR Sl_44 rfl rfl k1.rsl) rfl ?_
  refine lq (q_lss rfl rfl) rfl ?_
  refine WL.nil ?_
  refine WT.cond rfl (fun c1 => ?_) (fun c1 => ?_)
  · replace h := ite_t h c1
    refine WT.skip ?_
    refine WT.seq ?_
    refine WT.block ?_
    refine WT.seq ?_
    refine WT.region ?_
    refine lq (q_move rfl) rfl ?_
    refine lq (q_move rfl) rfl ?_
    refine lq (q_move rfl) rfl ?_
    obtain ⟨x1, hx1, h⟩ := bind_some h
    refine lp (p_call Fun_69 rfl (fun w1 hw => m_l_markText_ok hw.fro N s2 hx1)) rfl ?_
    obtain ⟨x2, hx2, h⟩ := bind_some h
    obtain ⟨cs1, F1, h1, r1⟩ := k1.focusF RTBind.flat hx2
    obtain ⟨rfl, -⟩ := r1
    refine lq (q_indexAddrH Sl_44 rfl rfl h1 hx2) rfl ?_
    refine lq (q_fieldAddr Fld_111_0 rfl) rfl ?_
    refine lu (u_setH (js := [0]) (Rr := []) (o := 0) (vs := [.string x1]) (cs' := [.string x1, .int .i64 x2.V.K, .int .i64 x2.V.N, .string x2.V.S]) RTBind.lasts Sz_9 rfl rfl rfl rfl ⟨rfl, trivial⟩ rfl h1 rfl rfl (fun ap => (Dj.nil _))) rfl (fun Φ_2 D2 q1 => ?_)
    obtain ⟨⟨ap1, fr1⟩, h2⟩ := q1
    refine WL.nil ?_
    refine WT.seq ?_
    refine WT.region ?_
    refine lq (q_move rfl) rfl ?_
    refine lq (q_add rfl rfl) rfl ?_
    refine lq (q_assign rfl) rfl ?_
    refine WL.nil ?_
    refine WT.seq ?_
    refine WT.region ?_
    refine lq (q_move rfl) rfl ?_
    refine lq (q_move rfl) rfl ?_
    refine lq (q_move rfl) rfl ?_
    refine lq (q_indexAddrH Sl_44 rfl rfl h2 hx2) rfl ?_
    refine lq (q_fieldAddr Fld_111_1 rfl) rfl ?_
    refine lq (q_fieldAddr Fld_109_0 rfl) rfl ?_
    refine lu (u_setH (js := [0]) (Rr := []) (o := 1) (vs := [.int .i64 (IntKind.i64.wrap (s2 + 1))]) (cs' := [.string x1, .int .i64 (IntKind.i64.wrap (s2 + 1)), .int .i64 x2.V.N, .string x2.V.S]) RTBind.lasts Sz_3 rfl rfl rfl rfl ⟨rfl, trivial⟩ rfl h2 rfl rfl (fun ap => (Dj.nil _))) rfl (fun Φ_3 D3 q2 => ?_)
    obtain ⟨⟨ap2, fr2⟩, h3⟩ := q2
    refine WL.nil ?_
    refine WT.seq ?_
    refine WT.region ?_
    refine lq (q_move rfl) rfl ?_
    refine lq (q_add rfl rfl) rfl ?_
    refine lq (q_assign rfl) rfl ?_
    refine WL.nil ?_
    refine WT.seq ?_
    refine WT.region ?_
    refine lq (q_move rfl) rfl ?_
    refine lq (q_move rfl) rfl ?_
    refine lq (q_move rfl) rfl ?_
    refine lq (q_indexAddrH Sl_44 rfl rfl h3 hx2) rfl ?_
    refine lq (q_fieldAddr Fld_111_1 rfl) rfl ?_
    refine lq (q_fieldAddr Fld_109_1 rfl) rfl ?_
    refine lu (u_setH (js := [0]) (Rr := []) (o := 2) (vs := [.int .i64 (IntKind.i64.wrap ((IntKind.i64.wrap (s2 + 1)) + 1))]) (cs' := [.string x1, .int .i64 (IntKind.i64.wrap (s2 + 1)), .int .i64 (IntKind.i64.wrap ((IntKind.i64.wrap (s2 + 1)) + 1)), .string x2.V.S]) RTBind.lasts Sz_3 rfl rfl rfl rfl ⟨rfl, trivial⟩ rfl h3 rfl rfl (fun ap => (Dj.nil _))) rfl (fun Φ_4 D4 q3 => ?_)
    obtain ⟨⟨ap3, fr3⟩, h4⟩ := q3
    refine WL.nil ?_
    refine WT.seq ?_
    refine WT.region ?_
    refine lq (q_move rfl) rfl ?_
    refine lq (q_add rfl rfl) rfl ?_
    refine lq (q_assign rfl) rfl ?_
    refine WL.nil ?_
    refine WT.seq ?_
    refine WT.region ?_
    refine lq (q_move rfl) rfl ?_
    refine lq (q_move rfl) rfl ?_
    refine lq (q_move rfl) rfl ?_
    obtain ⟨x3, hx3, h⟩ := bind_some h
    refine lp (p_call Fun_69 rfl (fun w1 hw => m_l_markText_ok hw.fro N (IntKind.i64.wrap ((IntKind.i64.wrap ((IntKind.i64.wrap (s2 + 1)) + 1)) + 1)) hx3)) rfl ?_
    refine lq (q_indexAddrH Sl_44 rfl rfl h4 hx2) rfl ?_
    refine lq (q_fieldAddr Fld_111_1 rfl) rfl ?_
    refine lq (q_fieldAddr Fld_109_2 rfl) rfl ?_
    refine lu (u_setH (js := [0]) (Rr := []) (o := 3) (vs := [.string x3]) (cs' := [.string x1, .int .i64 (IntKind.i64.wrap (s2 + 1)), .int .i64 (IntKind.i64.wrap ((IntKind.i64.wrap (s2 + 1)) + 1)), .string x3]) RTBind.lasts Sz_9 rfl rfl rfl rfl ⟨rfl, trivial⟩ rfl h4 rfl rfl (fun ap => (Dj.nil _))) rfl (fun Φ_5 D5 q4 => ?_)
    obtain ⟨⟨ap4, fr4⟩, h5⟩ := q4
    refine WL.nil ?_
    refine WT.region ?_
    refine lq (q_move rfl) rfl ?_
    refine lq (q_add rfl rfl) rfl ?_
    refine lq (q_assign rfl) rfl ?_
    refine WL.nil ?_
    refine WT.inBlock ?_
    refine WT.region ?_
    refine lq (q_move rfl) rfl ?_
    refine lq (q_add rfl rfl) rfl ?_
    refine lq (q_assign rfl) rfl ?_
    refine WL.nil ?_
    have h6 := h5.unfocusF RTBind.flat (cs := [.string x1, .int .i64 (IntKind.i64.wrap (s2 + 1)), .int .i64 (IntKind.i64.wrap ((IntKind.i64.wrap (s2 + 1)) + 1)), .string x3]) (x' := (⟨x1, (⟨IntKind.i64.wrap (s2 + 1), IntKind.i64.wrap ((IntKind.i64.wrap (s2 + 1)) + 1), x3⟩ : TVal)⟩ : TBind)) ⟨rfl, rfl⟩
    refine WT.inLoop (WT.mono (l' := [(0, pv0), (1, .int .i64 (IntKind.i64.wrap ((IntKind.i64.wrap ((IntKind.i64.wrap ((IntKind.i64.wrap (s2 + 1)) + 1)) + 1)) + 1))), (5, .int .i64 (IntKind.i64.wrap (s3 + 1)))]) (S' := St w0 Φ_5 [] [ob pv0]) ⟨rfl, rfl, rfl, trivial⟩ (fun w1 hw => (hw.sel (js := [0]) rfl).selO (js := []) rfl) ?_)
    exact ih1 (Φ_5, (s1.set s3.toNat (⟨x1, (⟨IntKind.i64.wrap (s2 + 1), IntKind.i64.wrap ((IntKind.i64.wrap (s2 + 1)) + 1), x3⟩ : TVal)⟩ : TBind)), IntKind.i64.wrap ((IntKind.i64.wrap ((IntKind.i64.wrap ((IntKind.i64.wrap (s2 + 1)) + 1)) + 1)) + 1), IntKind.i64.wrap (s3 + 1)) ⟨h, h6⟩
  replace h := ite_f h c1
  refine WT.exit rfl ?_
  refine WT.seq ?_
  refine WT.region ?_
  refine lq (q_move rfl) rfl ?_
  refine lq (q_assign rfl) rfl ?_
  refine WL.nil ?_
  refine WT.ret Try.func25 (resOk.one rfl) (fun w1 hw => ?_)
  subst hb0
  cases h
  refine postG_of_St (js := [0]) hw rfl ⟨rfl, rfl, k1⟩
theorem m_l_heldBindS_ok {Φ : Hp} {w : World} (hΦ : In Φ w) (N : Nat) (p0 : (List TBind)) (p1 : Int) {pv0 : Value} {pG0 : List Nat} (ph0 : RSl RTBind 4 Φ pG0 pv0 p0) {r : Int} (h : m_l_heldBindS N p0 p1 = some r) :
    Calls Try.prog 26 [pv0, .int .i64 p1].toArray w (Post (.int .i64 r) w) := by
  refine enter Try.func26 rfl Try.ntmps26 rfl (St.start0 hΦ) ?_
  generalize hb0 : (⟨w, [], Φ⟩ : Base) = w0
  unfold m_l_heldBindS at h
  refine WT.seq ?_
  refine WT.region ?_
  refine lq (q_assign rfl) rfl ?_
  refine WL.nil ?_
  refine WT.seq ?_
  refine WT.seq ?_
  refine WT.region ?_
  refine lq (q_assign rfl) rfl ?_
  refine WL.nil ?_
  refine WT.block ?_
  refine WT.loop ?_
  refine WT.mono (l' := [(0, pv0), (1, .int .i64 p1), (5, .int .i64 0)]) (S' := St w0 Φ [] []) ⟨rfl, rfl, rfl, trivial⟩ (fun w1 hw => (hw.sel (js := []) rfl).selO (js := []) rfl) ?_
  refine loop_ind (σ := Int × Int) (fun s => [(0, pv0), (1, .int .i64 s.1), (5, .int .i64 s.2)]) (fun s => St w0 Φ [] []) (fun m s => m_l_heldBindS_l1 N p0 m s.1 s.2 = some r) (fun s hm => none_ne (show (none : Option (Int)) = some r from hm)) (fun n1 ih1 s hm => ?_) N (p1, 0) h
  obtain ⟨s1, s2⟩ := s
  have h : m_l_heldBindS_l1 N p0 (n1 + 1) s1 s2 = some r := hm
  show WT _ _ [(0, pv0), (1, .int .i64 s1), (5, .int .i64 s2)] (St w0 Φ [] [])
  unfold m_l_heldBindS_l1 at h
  refine WT.seq ?_
  refine WT.seq ?_
  refine WT.region ?_
  refine lq (q_move rfl) rfl ?_
  refine lq (q_move rfl) rfl ?_
  refine lq (q_lenR Sl_44 rfl rfl ph0) rfl ?_
  refine lq (q_lss rfl rfl) rfl ?_
  refine WL.nil ?_
  refine WT.cond rfl (fun c1 => ?_) (fun c1 => ?_)
  · replace h := ite_t h c1
    refine WT.skip ?_
    refine WT.seq ?_
    refine WT.block ?_
    refine WT.seq ?_
    refine WT.seq ?_
    refine WT.draw mixed (by kernel_rfl) (fun _ h => h.drew) ?_
    refine qq (q_move rfl) rfl ?_
    refine qq (q_move rfl) rfl ?_
    obtain ⟨x1, hx1, h⟩ := bind_some h
    obtain ⟨cs1, F1, -, g1, hb1, hs1, r1⟩ := ph0.el (idx_some hx1).2.2
    obtain ⟨rfl, -⟩ := r1
    refine qq (q_indexAddr Sl_44 rfl rfl ph0 hx1) rfl ?_
    refine qq (q_fieldAddr Fld_111_0 rfl) rfl ?_
    refine qq (q_load1 T1_9 rfl (fun w1 hw => (g1.of_eq 0 1 rfl rfl : rg _ _ _ [.string x1.Name]).rangeAt hw.fro)) rfl ?_
    refine qq (q_move rfl) rfl ?_
    obtain ⟨x2, hx2, h⟩ := bind_some h
    refine qp (p_call Fun_69 rfl (fun w1 hw => m_l_markText_ok hw.fro N s1 hx2)) rfl ?_
    refine qq (q_sne rfl rfl) rfl ?_
    refine WQ.nil ?_
    refine WT.cond rfl (fun c2 => ?_) (fun c2 => ?_)
    · replace h := ite_t h c2
      refine WT.seq ?_
      refine WT.region ?_
      refine lq (q_assign rfl) rfl ?_
      refine WL.nil ?_
      refine WT.ret Try.func26 (resOk.one rfl) (fun w1 hw => ?_)
      subst hb0
      cases h
      exact post_of_St hw
    replace h := ite_f h c2
    refine WT.skip ?_
    refine WT.seq ?_
    refine WT.region ?_
    refine lq (q_move rfl) rfl ?_
    refine lq (q_add rfl rfl) rfl ?_
    refine lq (q_assign rfl) rfl ?_
    refine WL.nil ?_
    refine WT.seq ?_
    refine WT.seq ?_
    refine WT.region ?_
    refine lq (q_move rfl) rfl ?_
    refine lq (q_move rfl) rfl ?_
    obtain ⟨x3, hx3, h⟩ := bind_some h
    obtain ⟨cs2, F2, -, g2, hb2, hs2, r2⟩ := ph0.el (idx_some hx3).2.2
    obtain ⟨rfl, -⟩ := r2
    refine lq (q_indexAddr Sl_44 rfl rfl ph0 hx3) rfl ?_
    refine lq (q_fieldAddr Fld_111_1 rfl) rfl ?_
    refine lq (q_fieldAddr Fld_109_0 rfl) rfl ?_
    refine lq (q_load1 T1_3 rfl (fun w1 hw => (g2.of_eq 1 1 (by omega) rfl : rg _ _ _ [.int .i64 x3.V.K]).rangeAt hw.fro)) rfl ?_
    refine lq (q_move rfl) rfl ?_
    refine lq (q_neq rfl rfl) rfl ?_
    refine WL.nil ?_
    refine WT.cond rfl (fun c3 => ?_) (fun c3 => ?_)
    · replace h := ite_t h c3
      refine WT.seq ?_
      refine WT.region ?_
      refine lq (q_assign rfl) rfl ?_
      refine WL.nil ?_
      refine WT.ret Try.func26 (resOk.one rfl) (fun w1 hw => ?_)
      subst hb0
      cases h
      exact post_of_St hw
    replace h := ite_f h c3
    refine WT.skip ?_
    refine WT.seq ?_
    refine WT.region ?_
    refine lq (q_move rfl) rfl ?_
    refine lq (q_add rfl rfl) rfl ?_
    refine lq (q_assign rfl) rfl ?_
    refine WL.nil ?_
    refine WT.seq ?_
    refine WT.seq ?_
    refine WT.region ?_
    refine lq (q_move rfl) rfl ?_
    refine lq (q_move rfl) rfl ?_
    obtain ⟨x4, hx4, h⟩ := bind_some h
    obtain ⟨cs3, F3, -, g3, hb3, hs3, r3⟩ := ph0.el (idx_some hx4).2.2
    obtain ⟨rfl, -⟩ := r3
    refine lq (q_indexAddr Sl_44 rfl rfl ph0 hx4) rfl ?_
    refine lq (q_fieldAddr Fld_111_1 rfl) rfl ?_
    refine lq (q_fieldAddr Fld_109_1 rfl) rfl ?_
    refine lq (q_load1 T1_3 rfl (fun w1 hw => (g3.of_eq 2 1 (by omega) rfl : rg _ _ _ [.int .i64 x4.V.N]).rangeAt hw.fro)) rfl ?_
    refine lq (q_move rfl) rfl ?_
    refine lq (q_neq rfl rfl) rfl ?_
    refine WL.nil ?_
    refine WT.cond rfl (fun c4 => ?_) (fun c4 => ?_)
    · replace h := ite_t h c4
      refine WT.seq ?_
      refine WT.region ?_
      refine lq (q_assign rfl) rfl ?_
      refine WL.nil ?_
      refine WT.ret Try.func26 (resOk.one rfl) (fun w1 hw => ?_)
      subst hb0
      cases h
      exact post_of_St hw
    replace h := ite_f h c4
    refine WT.skip ?_
    refine WT.seq ?_
    refine WT.region ?_
    refine lq (q_move rfl) rfl ?_
    refine lq (q_add rfl rfl) rfl ?_
    refine lq (q_assign rfl) rfl ?_
    refine WL.nil ?_
    refine WT.seq ?_
    refine WT.seq ?_
    refine WT.draw mixed (by kernel_rfl) (fun _ h => h.drew) ?_
    refine qq (q_move rfl) rfl ?_
    refine qq (q_move rfl) rfl ?_
    obtain ⟨x5, hx5, h⟩ := bind_some h
    obtain ⟨cs4, F4, -, g4, hb4, hs4, r4⟩ := ph0.el (idx_some hx5).2.2
    obtain ⟨rfl, -⟩ := r4
    refine qq (q_indexAddr Sl_44 rfl rfl ph0 hx5) rfl ?_
    refine qq (q_fieldAddr Fld_111_1 rfl) rfl ?_
    refine qq (q_fieldAddr Fld_109_2 rfl) rfl ?_
    refine qq (q_load1 T1_9 rfl (fun w1 hw => (g4.of_eq 3 1 (by omega) rfl : rg _ _ _ [.string x5.V.S]).rangeAt hw.fro)) rfl ?_
    refine qq (q_move rfl) rfl ?_
    obtain ⟨x6, hx6, h⟩ := bind_some h
    refine qp (p_call Fun_69 rfl (fun w1 hw => m_l_markText_ok hw.fro N (IntKind.i64.wrap ((IntKind.i64.wrap ((IntKind.i64.wrap (s1 + 1)) + 1)) + 1)) hx6)) rfl ?_
    refine qq (q_sne rfl rfl) rfl ?_
    refine WQ.nil ?_
    refine WT.cond rfl (fun c5 => ?_) (fun c5 => ?_)
    · replace h := ite_t h c5
      refine WT.seq ?_
      refine WT.region ?_
      refine lq (q_assign rfl) rfl ?_
      refine WL.nil ?_
      refine WT.ret Try.func26 (resOk.one rfl) (fun w1 hw => ?_)
      subst hb0
      cases h
      exact post_of_St hw
    replace h := ite_f h c5
    refine WT.skip ?_
    refine WT.region ?_
    refine lq (q_move rfl) rfl ?_
    refine lq (q_add rfl rfl) rfl ?_
    refine lq (q_assign rfl) rfl ?_
    refine WL.nil ?_
    refine WT.inBlock ?_
    refine WT.region ?_
    refine lq (q_move rfl) rfl ?_
    refine lq (q_add rfl rfl) rfl ?_
    refine lq (q_assign rfl) rfl ?_
    refine WL.nil ?_
    refine WT.inLoop (WT.mono (l' := [(0, pv0), (1, .int .i64 (IntKind.i64.wrap ((IntKind.i64.wrap ((IntKind.i64.wrap ((IntKind.i64.wrap (s1 + 1)) + 1)) + 1)) + 1))), (5, .int .i64 (IntKind.i64.wrap (s2 + 1)))]) (S' := St w0 Φ [] []) ⟨rfl, rfl, rfl, trivial⟩ (fun w1 hw => (hw.sel (js := []) rfl).selO (js := []) rfl) ?_)
    exact ih1 (IntKind.i64.wrap ((IntKind.i64.wrap ((IntKind.i64.wrap ((IntKind.i64.wrap (s1 + 1)) + 1)) + 1)) + 1), IntKind.i64.wrap (s2 + 1)) h
  replace h := ite_f h c1
  refine WT.exit rfl ?_
  refine WT.seq ?_
  refine WT.region ?_
  refine lq (q_move rfl) rfl ?_
  refine lq (q_assign rfl) rfl ?_
  refine WL.nil ?_
  refine WT.ret Try.func26 (resOk.one rfl) (fun w1 hw => ?_)
  subst hb0
  cases h
  exact post_of_St hw
theorem m_l_FnExactBindsFor_ok {Φ : Hp} {w : World} (hΦ : In Φ w) (N : Nat) (p0 : TRule) (p1 : TStore) (p2 : (List Int)) {pv0_0 : Value} {pG0_0 : List Nat} {pv0_1 : Value} {pG0_1 : List Nat} {pv0_2 : Value} {pG0_2 : List Nat} {pv1_0 : Value} {pG1_0 : List Nat} {pv2 : Value} {pG2 : List Nat} (ph0_0 : RSl RTPat 3 Φ pG0_0 pv0_0 p0.Pats) (ph0_1 : RSl RTCond 11 Φ pG0_1 pv0_1 p0.Conds) (ph0_2 : RSl RTAct 5 Φ pG0_2 pv0_2 p0.Acts) (ph1_0 : RSl RTItem 3 Φ pG1_0 pv1_0 p1.Items) (ph2 : RSl (RI .i64) 1 Φ pG2 pv2 p2) {r : Bool} (h : m_l_FnExactBindsFor N p0 p1 p2 = some r) :
    Calls Try.prog 4 [.agg [.string p0.Name, .int .i64 p0.Sal, pv0_0, pv0_1, pv0_2].toArray, .agg [pv1_0, .int .i64 p1.Next].toArray, pv2].toArray w (Post (.bool r) w) := by
  refine enter Try.func4 rfl Try.ntmps4 rfl (St.start0 hΦ) ?_
  have pa0_0 : Old ⟨w, [], Φ⟩ pG0_0 := Old.mk hΦ ph0_0.kn (Dj.empty _)
  have pa0_1 : Old ⟨w, [], Φ⟩ pG0_1 := Old.mk hΦ ph0_1.kn (Dj.empty _)
  have pa0_2 : Old ⟨w, [], Φ⟩ pG0_2 := Old.mk hΦ ph0_2.kn (Dj.empty _)
  have pa1_0 : Old ⟨w, [], Φ⟩ pG1_0 := Old.mk hΦ ph1_0.kn (Dj.empty _)
  have pa2 : Old ⟨w, [], Φ⟩ pG2 := Old.mk hΦ ph2.kn (Dj.empty _)
  unfold m_l_FnExactBindsFor at h
  refine WT.seq ?_
  refine WT.region ?_
  refine ln (n_box (C := #[.string p0.Name, .int .i64 p0.Sal, pv0_0, pv0_1, pv0_2]) rfl rfl) rfl (fun b_1 => ?_)
  refine ln (n_box (C := #[pv1_0, .int .i64 p1.Next]) rfl rfl) rfl (fun b_2 => ?_)
  refine lq (q_assign rfl) rfl ?_
  refine WL.nil ?_
  refine WT.seq ?_
  refine WT.seq ?_
  refine WT.region ?_
  refine lq (q_move rfl) rfl ?_
  refine lq (q_lenR Sl_41 rfl rfl ph2) rfl ?_
  refine lq (q_gtr rfl rfl) rfl ?_
  refine WL.nil ?_
  refine WT.cond rfl (fun c1 => ?_) (fun c1 => ?_)
  · replace h := ite_t h c1
    refine WT.seq ?_
    refine WT.region ?_
    refine lq (q_assign rfl) rfl ?_
    refine WL.nil ?_
    refine WT.ret Try.func4 (resOk.one rfl) (fun w1 hw => ?_)
    cases h
    exact post_of_St hw
  replace h := ite_f h c1
  refine WT.skip ?_
  refine WT.seq ?_
  refine WT.region ?_
  refine lq (q_assign rfl) rfl ?_
  refine WL.nil ?_
  refine WT.seq ?_
  refine WT.region ?_
  refine lq (q_loadN Tn_37 rfl (fun w1 hw => hw.rgO (i := 1) rfl 0 5 [.string p0.Name, .int .i64 p0.Sal, pv0_0, pv0_1, pv0_2] rfl) rfl) rfl ?_
  refine lq (q_move rfl) rfl ?_
  obtain ⟨x1, hx1, h⟩ := bind_some h
  refine lp (p_call Fun_11 rfl (fun w1 hw => m_l_szRule_ok hw.fro N p0 1048576 ph0_0 ph0_1 ph0_2 hx1)) rfl ?_
  refine lq (q_assign rfl) rfl ?_
  refine WL.nil ?_
  refine WT.seq ?_
  refine WT.seq ?_
  refine WT.region ?_
  refine lq (q_move rfl) rfl ?_
  refine lq (q_lss rfl rfl) rfl ?_
  refine WL.nil ?_
  refine WT.cond rfl (fun c2 => ?_) (fun c2 => ?_)
  · replace h := ite_t h c2
    refine WT.seq ?_
    refine WT.region ?_
    refine lq (q_assign rfl) rfl ?_
    refine WL.nil ?_
    refine WT.ret Try.func4 (resOk.one rfl) (fun w1 hw => ?_)
    cases h
    exact post_of_St hw
  replace h := ite_f h c2
  refine WT.skip ?_
  refine WT.seq ?_
  refine WT.region ?_
  refine lq (q_loadN Tn_40 rfl (fun w1 hw => hw.rgO (i := 0) rfl 0 2 [pv1_0, .int .i64 p1.Next] rfl) rfl) rfl ?_
  refine lq (q_move rfl) rfl ?_
  obtain ⟨x2, hx2, h⟩ := bind_some h
  refine lp (p_call Fun_12 rfl (fun w1 hw => m_l_szStore_ok hw.fro N p1 x1 ph1_0 hx2)) rfl ?_
  refine lq (q_assign rfl) rfl ?_
  refine WL.nil ?_
  refine WT.seq ?_
  refine WT.seq ?_
  refine WT.region ?_
  refine lq (q_move rfl) rfl ?_
  refine lq (q_lss rfl rfl) rfl ?_
  refine WL.nil ?_
  refine WT.cond rfl (fun c3 => ?_) (fun c3 => ?_)
  · replace h := ite_t h c3
    refine WT.seq ?_
    refine WT.region ?_
    refine lq (q_assign rfl) rfl ?_
    refine WL.nil ?_
    refine WT.ret Try.func4 (resOk.one rfl) (fun w1 hw => ?_)
    cases h
    exact post_of_St hw
  replace h := ite_f h c3
  refine WT.skip ?_
  refine WT.seq ?_
  refine WT.mix (Kn Φ [] [(b_2, .cells #[pv1_0, .int .i64 p1.Next] 40 (0, 0)), (b_1, .cells #[.string p0.Name, .int .i64 p0.Sal, pv0_0, pv0_1, pv0_2] 37 (0, 0))]) (fun _ => true) mixed (fun _ h => h.drew) ?_
  refine mq 0 rfl (by kernel_rfl) (fun w1 hw => Kn.of (fun k hk _ _ => by simp at hk) (AllIn.mem ⟨List.mem_of_getElem? (i := 0) rfl, List.mem_of_getElem? (i := 1) rfl, trivial⟩) hw) (q_loadN Tn_37 rfl (fun w1 hw => hw.rgO (i := 1) rfl 0 5 [.string p0.Name, .int .i64 p0.Sal, pv0_0, pv0_1, pv0_2] rfl) rfl) rfl ?_
  refine mq 2 rfl (by kernel_rfl) (fun w1 hw => Kn.of (fun k hk _ _ => by simp at hk) (AllIn.mem ⟨List.mem_of_getElem? (i := 0) rfl, List.mem_of_getElem? (i := 1) rfl, trivial⟩) hw) (q_loadN Tn_40 rfl (fun w1 hw => hw.rgO (i := 0) rfl 0 2 [pv1_0, .int .i64 p1.Next] rfl) rfl) rfl ?_
  refine mq 4 rfl (by kernel_rfl) (fun w1 hw => Kn.of (fun k hk _ _ => by simp at hk) (AllIn.mem ⟨List.mem_of_getElem? (i := 0) rfl, List.mem_of_getElem? (i := 1) rfl, trivial⟩) hw) (q_move rfl) rfl ?_
  obtain ⟨x3, hx3, h⟩ := bind_some h
  refine WM.one 1 (by kernel_rfl) (mc rfl (fun _ v Φx D w1 hq hw => Kn.of (fun k hk _ _ => by simp at hk) (AllIn.mem ⟨List.mem_of_getElem? (i := 0) rfl, List.mem_of_getElem? (i := 1) rfl, trivial⟩) hw) (k_call (js := []) (R := []) Fun_14 rfl rfl (fun w1 hw ap hl => m_l_toRule_ok hw.fro N p0 ph0_0 ph0_1 ph0_2  hx3)) rfl (fun v1 Φ_1 F1 q1 => ?_))
  obtain ⟨ap1, fr1, v2, D1, v3, v4, D2, rfl, rfl, h1, h2, h3⟩ := q1
  replace ph2 := ph2.frame RI.lasts fr1 (ap1.o pa2)
  replace ph0_0 := ph0_0.frame RTPat.lasts fr1 (ap1.o pa0_0)
  replace ph0_1 := ph0_1.frame RTCond.lasts fr1 (ap1.o pa0_1)
  replace ph0_2 := ph0_2.frame RTAct.lasts fr1 (ap1.o pa0_2)
  replace ph1_0 := ph1_0.frame RTItem.lasts fr1 (ap1.o pa1_0)
  obtain ⟨x4, hx4, h⟩ := bind_some h
  refine WM.one 3 (by kernel_rfl) (mc rfl (fun _ v Φx D w1 hq hw => Kn.of (fun k hk _ _ => by simp at hk) (AllIn.mem ⟨List.mem_of_getElem? (i := 0) rfl, List.mem_of_getElem? (i := 1) rfl, trivial⟩) hw) (k_call (js := []) (R := [ob v2, D1, ob v3, ob v4, D2]) Fun_15 rfl rfl (fun w1 hw ap hl => m_l_toStore_ok hw.fro N p1 ph1_0  hx4)) rfl (fun v5 Φ_2 F2 q2 => ?_))
  obtain ⟨ap2, fr2, v6, D3, rfl, rfl, h4⟩ := q2
  replace ph2 := ph2.frame RI.lasts fr2 (ap2.o pa2)
  replace ph0_0 := ph0_0.frame RTPat.lasts fr2 (ap2.o pa0_0)
  replace ph0_1 := ph0_1.frame RTCond.lasts fr2 (ap2.o pa0_1)
  replace ph0_2 := ph0_2.frame RTAct.lasts fr2 (ap2.o pa0_2)
  replace ph1_0 := ph1_0.frame RTItem.lasts fr2 (ap2.o pa1_0)
  replace h1 := h1.frame OTPat.lasts fr2 (ap2.r (i := 0) rfl) (ap2.r (i := 1) rfl)
  replace h2 := h2.frame RTCond.lasts fr2 (ap2.r (i := 2) rfl) (Dj.nil _)
  replace h3 := h3.frame OTAct.lasts fr2 (ap2.r (i := 3) rfl) (ap2.r (i := 4) rfl)
  obtain ⟨x5, hx5, h⟩ := bind_some h
  refine WM.one 5 (by kernel_rfl) (mc rfl (fun _ v Φx D w1 hq hw => Kn.of (fun k hk _ _ => by simp at hk) (AllIn.mem ⟨List.mem_of_getElem? (i := 0) rfl, List.mem_of_getElem? (i := 1) rfl, trivial⟩) hw) (k_call (js := []) (R := [ob v6, D3, ob v2, D1, ob v3, ob v4, D2]) Fun_16 rfl rfl (fun w1 hw ap hl => m_l_toIntS_ok hw.fro N p2 ph2  hx5)) rfl (fun v7 Φ_3 F3 q3 => ?_))
  obtain ⟨ap3, fr3, v8, rfl, rfl, h5⟩ := q3
  replace ph2 := ph2.frame RI.lasts fr3 (ap3.o pa2)
  replace ph0_0 := ph0_0.frame RTPat.lasts fr3 (ap3.o pa0_0)
  replace ph0_1 := ph0_1.frame RTCond.lasts fr3 (ap3.o pa0_1)
  replace ph0_2 := ph0_2.frame RTAct.lasts fr3 (ap3.o pa0_2)
  replace ph1_0 := ph1_0.frame RTItem.lasts fr3 (ap3.o pa1_0)
  replace h1 := h1.frame OTPat.lasts fr3 (ap3.r (i := 2) rfl) (ap3.r (i := 3) rfl)
  replace h2 := h2.frame RTCond.lasts fr3 (ap3.r (i := 4) rfl) (Dj.nil _)
  replace h3 := h3.frame OTAct.lasts fr3 (ap3.r (i := 5) rfl) (ap3.r (i := 6) rfl)
  replace h4 := h4.frame OTItem.lasts fr3 (ap3.r (i := 0) rfl) (ap3.r (i := 1) rfl)
  obtain ⟨x6, hx6, h⟩ := bind_some h
  refine WM.one 6 (by kernel_rfl) (mc rfl (fun _ v Φx D w1 hq hw => Kn.of (fun k hk _ _ => by simp at hk) (AllIn.mem ⟨List.mem_of_getElem? (i := 0) rfl, List.mem_of_getElem? (i := 1) rfl, trivial⟩) hw) (k_call (js := []) (R := [ob v7, ob v6, D3, ob v2, D1, ob v3, ob v4, D2]) Fun_13 rfl rfl (fun w1 hw ap hl => m_s_BindsFor_ok hw.fro N x3 x4 x5 (h1.rslG OTPat.gives) h2.rsl (h3.rslG OTAct.gives) (h4.rslG OTItem.gives) h5.rsl  hx6)) rfl (fun v9 Φ_4 F4 q4 => ?_))
  obtain ⟨ap4, fr4, v10, rfl, rfl, h6⟩ := q4
  replace ph2 := ph2.frame RI.lasts fr4 (ap4.o pa2)
  replace ph0_0 := ph0_0.frame RTPat.lasts fr4 (ap4.o pa0_0)
  replace ph0_1 := ph0_1.frame RTCond.lasts fr4 (ap4.o pa0_1)
  replace ph0_2 := ph0_2.frame RTAct.lasts fr4 (ap4.o pa0_2)
  replace ph1_0 := ph1_0.frame RTItem.lasts fr4 (ap4.o pa1_0)
  refine mq 7 rfl (by kernel_rfl) (fun w1 hw => Kn.of (fun k hk _ _ => by simp at hk) (AllIn.mem ⟨List.mem_of_getElem? (i := 0) rfl, List.mem_of_getElem? (i := 1) rfl, trivial⟩) hw) (q_move rfl) rfl ?_
  refine mq 8 rfl (by kernel_rfl) (fun w1 hw => Kn.of (fun k hk _ _ => by simp at hk) (AllIn.mem ⟨List.mem_of_getElem? (i := 0) rfl, List.mem_of_getElem? (i := 1) rfl, trivial⟩) hw) (q_extract rfl rfl) rfl ?_
  refine mq 9 rfl (by kernel_rfl) (fun w1 hw => Kn.of (fun k hk _ _ => by simp at hk) (AllIn.mem ⟨List.mem_of_getElem? (i := 0) rfl, List.mem_of_getElem? (i := 1) rfl, trivial⟩) hw) (q_extract rfl rfl) rfl ?_
  refine mq 10 rfl (by kernel_rfl) (fun w1 hw => Kn.of (fun k hk _ _ => by simp at hk) (AllIn.mem ⟨List.mem_of_getElem? (i := 0) rfl, List.mem_of_getElem? (i := 1) rfl, trivial⟩) hw) (q_assign rfl) rfl ?_
  refine mq 11 rfl (by kernel_rfl) (fun w1 hw => Kn.of (fun k hk _ _ => by simp at hk) (AllIn.mem ⟨List.mem_of_getElem? (i := 0) rfl, List.mem_of_getElem? (i := 1) rfl, trivial⟩) hw) (q_assign rfl) rfl ?_
  refine WM.nil (by kernel_rfl) ?_
  refine WT.seq ?_
  refine WT.region ?_
  refine lq (q_loadN Tn_37 rfl (fun w1 hw => hw.rgO (i := 1) rfl 0 5 [.string p0.Name, .int .i64 p0.Sal, pv0_0, pv0_1, pv0_2] rfl) rfl) rfl ?_
  obtain ⟨x7, hx7, h⟩ := bind_some h
  refine lc (k_call (js := []) (R := [ob v10, ob v7, ob v6, D3, ob v2, D1, ob v3, ob v4, D2]) Fun_14 rfl rfl (fun w1 hw ap hl => m_l_toRule_ok hw.fro N p0 ph0_0 ph0_1 ph0_2  hx7)) rfl (fun v11 Φ_5 F5 q5 => ?_)
  obtain ⟨ap5, fr5, v12, D4, v13, v14, D5, rfl, rfl, h7, h8, h9⟩ := q5
  replace ph2 := ph2.frame RI.lasts fr5 (ap5.o pa2)
  replace ph0_0 := ph0_0.frame RTPat.lasts fr5 (ap5.o pa0_0)
  replace ph0_1 := ph0_1.frame RTCond.lasts fr5 (ap5.o pa0_1)
  replace ph0_2 := ph0_2.frame RTAct.lasts fr5 (ap5.o pa0_2)
  replace ph1_0 := ph1_0.frame RTItem.lasts fr5 (ap5.o pa1_0)
  replace h6 := h6.frame RTBind.lasts fr5 (ap5.r (i := 0) rfl) (Dj.nil _)
  refine ln (n_alloc (C := #[.string (⟨#[]⟩ : ByteArray), .int .i64 0, .slice none 0 0, .slice none 0 0, .slice none 0 0]) Zr_51 rfl) rfl (fun b_3 => ?_)
  refine ls (s_store (i := 0) (vs := [.string x7.Name, .int .i64 x7.Sal, v12, v13, v14]) (C' := [.string x7.Name, .int .i64 x7.Sal, v12, v13, v14]) (O' := [(b_3, .cells #[.string x7.Name, .int .i64 x7.Sal, v12, v13, v14] 51 (0, 0)), (b_2, .cells #[pv1_0, .int .i64 p1.Next] 40 (0, 0)), (b_1, .cells #[.string p0.Name, .int .i64 p0.Sal, pv0_0, pv0_1, pv0_2] 37 (0, 0))]) Sz_51 rfl rfl rfl rfl rfl rfl ⟨rfl, rfl, h7.one, h8.one, h9.one, trivial⟩ rfl rfl) rfl ?_
  refine WL.nil ?_
  refine WT.seq ?_
  refine WT.region ?_
  refine lq (q_loadN Tn_40 rfl (fun w1 hw => hw.rgO (i := 1) rfl 0 2 [pv1_0, .int .i64 p1.Next] rfl) rfl) rfl ?_
  obtain ⟨x8, hx8, h⟩ := bind_some h
  refine lc (k_call (js := []) (R := [ob v12, D4, ob v13, ob v14, D5, ob v10, ob v7, ob v6, D3, ob v2, D1, ob v3, ob v4, D2]) Fun_15 rfl rfl (fun w1 hw ap hl => m_l_toStore_ok hw.fro N p1 ph1_0  hx8)) rfl (fun v15 Φ_6 F6 q6 => ?_)
  obtain ⟨ap6, fr6, v16, D6, rfl, rfl, h10⟩ := q6
  replace ph2 := ph2.frame RI.lasts fr6 (ap6.o pa2)
  replace ph0_0 := ph0_0.frame RTPat.lasts fr6 (ap6.o pa0_0)
  replace ph0_1 := ph0_1.frame RTCond.lasts fr6 (ap6.o pa0_1)
  replace ph0_2 := ph0_2.frame RTAct.lasts fr6 (ap6.o pa0_2)
  replace ph1_0 := ph1_0.frame RTItem.lasts fr6 (ap6.o pa1_0)
  replace h6 := h6.frame RTBind.lasts fr6 (ap6.r (i := 5) rfl) (Dj.nil _)
  replace h7 := h7.frame OTPat.lasts fr6 (ap6.r (i := 0) rfl) (ap6.r (i := 1) rfl)
  replace h8 := h8.frame RTCond.lasts fr6 (ap6.r (i := 2) rfl) (Dj.nil _)
  replace h9 := h9.frame OTAct.lasts fr6 (ap6.r (i := 3) rfl) (ap6.r (i := 4) rfl)
  refine ln (n_alloc (C := #[.slice none 0 0, .int .i64 0]) Zr_55 rfl) rfl (fun b_4 => ?_)
  refine ls (s_store (i := 0) (vs := [v16, .int .i64 x8.Next]) (C' := [v16, .int .i64 x8.Next]) (O' := [(b_4, .cells #[v16, .int .i64 x8.Next] 55 (0, 0)), (b_3, .cells #[.string x7.Name, .int .i64 x7.Sal, v12, v13, v14] 51 (0, 0)), (b_2, .cells #[pv1_0, .int .i64 p1.Next] 40 (0, 0)), (b_1, .cells #[.string p0.Name, .int .i64 p0.Sal, pv0_0, pv0_1, pv0_2] 37 (0, 0))]) Sz_55 rfl rfl rfl rfl rfl rfl ⟨h10.one, rfl, trivial⟩ rfl rfl) rfl ?_
  refine WL.nil ?_
  refine WT.seq ?_
  refine WT.region ?_
  refine lq (q_move rfl) rfl ?_
  obtain ⟨x9, hx9, h⟩ := bind_some h
  refine lc (k_call (js := []) (R := [ob v16, D6, ob v12, D4, ob v13, ob v14, D5, ob v10, ob v7, ob v6, D3, ob v2, D1, ob v3, ob v4, D2]) Fun_16 rfl rfl (fun w1 hw ap hl => m_l_toIntS_ok hw.fro N p2 ph2  hx9)) rfl (fun v17 Φ_7 F7 q7 => ?_)
  obtain ⟨ap7, fr7, v18, rfl, rfl, h11⟩ := q7
  replace ph2 := ph2.frame RI.lasts fr7 (ap7.o pa2)
  replace ph0_0 := ph0_0.frame RTPat.lasts fr7 (ap7.o pa0_0)
  replace ph0_1 := ph0_1.frame RTCond.lasts fr7 (ap7.o pa0_1)
  replace ph0_2 := ph0_2.frame RTAct.lasts fr7 (ap7.o pa0_2)
  replace ph1_0 := ph1_0.frame RTItem.lasts fr7 (ap7.o pa1_0)
  replace h10 := h10.frame OTItem.lasts fr7 (ap7.r (i := 0) rfl) (ap7.r (i := 1) rfl)
  replace h6 := h6.frame RTBind.lasts fr7 (ap7.r (i := 7) rfl) (Dj.nil _)
  replace h7 := h7.frame OTPat.lasts fr7 (ap7.r (i := 2) rfl) (ap7.r (i := 3) rfl)
  replace h8 := h8.frame RTCond.lasts fr7 (ap7.r (i := 4) rfl) (Dj.nil _)
  replace h9 := h9.frame OTAct.lasts fr7 (ap7.r (i := 5) rfl) (ap7.r (i := 6) rfl)
  refine lq (q_assign rfl) rfl ?_
  refine WL.nil ?_
  refine WT.seq ?_
  refine WT.region ?_
  refine lq (q_loadN Tn_51 rfl (fun w1 hw => hw.rgO (i := 1) rfl 0 5 [.string x7.Name, .int .i64 x7.Sal, v12, v13, v14] rfl) rfl) rfl ?_
  refine lq (q_loadN Tn_55 rfl (fun w1 hw => hw.rgO (i := 0) rfl 0 2 [v16, .int .i64 x8.Next] rfl) rfl) rfl ?_
  refine lq (q_move rfl) rfl ?_
  obtain ⟨x10, hx10, h⟩ := bind_some h
  refine lc (k_call (js := []) (R := [ob v17, ob v16, D6, ob v12, D4, ob v13, ob v14, D5, ob v10, ob v7, ob v6, D3, ob v2, D1, ob v3, ob v4, D2]) Fun_17 rfl rfl (fun w1 hw ap hl => m_i_BindsFor_ok hw.fro N x7 x8 x9 (h7.rslG OTPat.gives) h8.rsl (h9.rslG OTAct.gives) (h10.rslG OTItem.gives) h11.rsl  hx10)) rfl (fun v19 Φ_8 F8 q8 => ?_)
  obtain ⟨ap8, fr8, v20, rfl, rfl, h12⟩ := q8
  replace ph2 := ph2.frame RI.lasts fr8 (ap8.o pa2)
  replace ph0_0 := ph0_0.frame RTPat.lasts fr8 (ap8.o pa0_0)
  replace ph0_1 := ph0_1.frame RTCond.lasts fr8 (ap8.o pa0_1)
  replace ph0_2 := ph0_2.frame RTAct.lasts fr8 (ap8.o pa0_2)
  replace ph1_0 := ph1_0.frame RTItem.lasts fr8 (ap8.o pa1_0)
  replace h10 := h10.frame OTItem.lasts fr8 (ap8.r (i := 1) rfl) (ap8.r (i := 2) rfl)
  replace h11 := h11.frame RI.lasts fr8 (ap8.r (i := 0) rfl) (Dj.nil _)
  replace h6 := h6.frame RTBind.lasts fr8 (ap8.r (i := 8) rfl) (Dj.nil _)
  replace h7 := h7.frame OTPat.lasts fr8 (ap8.r (i := 3) rfl) (ap8.r (i := 4) rfl)
  replace h8 := h8.frame RTCond.lasts fr8 (ap8.r (i := 5) rfl) (Dj.nil _)
  replace h9 := h9.frame OTAct.lasts fr8 (ap8.r (i := 6) rfl) (ap8.r (i := 7) rfl)
  refine lq (q_move rfl) rfl ?_
  refine lq (q_extract rfl rfl) rfl ?_
  refine lq (q_extract rfl rfl) rfl ?_
  refine lq (q_assign rfl) rfl ?_
  refine lq (q_assign rfl) rfl ?_
  refine WL.nil ?_
  refine WT.seq ?_
  refine WT.seq ?_
  refine WT.region ?_
  refine lq (q_move rfl) rfl ?_
  refine lq (q_move rfl) rfl ?_
  obtain ⟨x11, hx11, h⟩ := bind_some h
  refine lp (p_call Fun_18 rfl (fun w1 hw => m_l_eqBindS_ok hw.fro N x10.1 x6.1 h12.rsl h6.rsl hx11)) rfl ?_
  refine lq (q_not rfl) rfl ?_
  refine lq (q_move rfl) rfl ?_
  obtain ⟨b1, hb_1, h⟩ := bind_some h
  refine WL.cutN 4 [(64, .bool b1), (2, pv2), (3, .pointer (some ⟨b_1, 0, none⟩)), (4, .pointer (some ⟨b_2, 0, none⟩)), (8, v10), (9, .bool x6.2), (10, .pointer (some ⟨b_3, 0, none⟩)), (11, .pointer (some ⟨b_4, 0, none⟩)), (12, v17), (13, v20), (14, .bool x10.2)] ?_ (fun K => ?_)
  rotate_left
  · refine WL.split (d := 60) rfl (fun c4 => ?_) (fun c4 => ?_)
    · replace hb_1 := ite_t hb_1 c4
      refine WL.no rfl rfl rfl rfl ?_
      refine WL.no rfl rfl rfl rfl ?_
      refine WL.no rfl rfl rfl rfl ?_
      refine WL.q (q_pick1 rfl rfl) rfl rfl rfl ?_
      cases hb_1
      exact WL.keep (by exact ⟨rfl, rfl, rfl, rfl, rfl, rfl, rfl, rfl, rfl, rfl, rfl, trivial⟩) K
    · replace hb_1 := ite_f hb_1 c4
      refine WL.yes rfl rfl ?_
      refine lq (q_move rfl) rfl ?_
      refine WL.yes rfl rfl ?_
      refine lq (q_move rfl) rfl ?_
      refine WL.yes rfl rfl ?_
      refine lq (q_bne Bo_4 rfl rfl) rfl ?_
      refine WL.q (q_pick0 rfl rfl) rfl rfl rfl ?_
      cases hb_1
      exact WL.keep (by exact ⟨rfl, rfl, rfl, rfl, rfl, rfl, rfl, rfl, rfl, rfl, rfl, trivial⟩) K
  refine WL.nil ?_
  refine WT.cond rfl (fun c5 => ?_) (fun c5 => ?_)
  · replace h := ite_t h c5
    refine WT.seq ?_
    refine WT.region ?_
    refine lq (q_assign rfl) rfl ?_
    refine WL.nil ?_
    refine WT.ret Try.func4 (resOk.one rfl) (fun w1 hw => ?_)
    cases h
    exact post_of_St hw
  replace h := ite_f h c5
  refine WT.skip ?_
  refine WT.seq ?_
  refine WT.seq ?_
  refine WT.mix (Kn Φ_8 [] [(b_4, .cells #[v16, .int .i64 x8.Next] 55 (0, 0)), (b_3, .cells #[.string x7.Name, .int .i64 x7.Sal, v12, v13, v14] 51 (0, 0)), (b_2, .cells #[pv1_0, .int .i64 p1.Next] 40 (0, 0)), (b_1, .cells #[.string p0.Name, .int .i64 p0.Sal, pv0_0, pv0_1, pv0_2] 37 (0, 0))]) (fun _ => true) mixed (fun _ h => h.drew) ?_
  refine mq 0 rfl (by kernel_rfl) (fun w1 hw => Kn.of (fun k hk _ _ => by simp at hk) (AllIn.mem ⟨List.mem_of_getElem? (i := 0) rfl, List.mem_of_getElem? (i := 1) rfl, List.mem_of_getElem? (i := 2) rfl, List.mem_of_getElem? (i := 3) rfl, trivial⟩) hw) (q_loadN Tn_51 rfl (fun w1 hw => hw.rgO (i := 1) rfl 0 5 [.string x7.Name, .int .i64 x7.Sal, v12, v13, v14] rfl) rfl) rfl ?_
  refine mq 1 rfl (by kernel_rfl) (fun w1 hw => Kn.of (fun k hk _ _ => by simp at hk) (AllIn.mem ⟨List.mem_of_getElem? (i := 0) rfl, List.mem_of_getElem? (i := 1) rfl, List.mem_of_getElem? (i := 2) rfl, List.mem_of_getElem? (i := 3) rfl, trivial⟩) hw) (q_loadN Tn_37 rfl (fun w1 hw => hw.rgO (i := 3) rfl 0 5 [.string p0.Name, .int .i64 p0.Sal, pv0_0, pv0_1, pv0_2] rfl) rfl) rfl ?_
  obtain ⟨x12, hx12, h⟩ := bind_some h
  refine WM.one 2 (by kernel_rfl) (mc rfl (fun _ v Φx D w1 hq hw => Kn.of (fun k hk _ _ => by simp at hk) (AllIn.mem ⟨List.mem_of_getElem? (i := 0) rfl, List.mem_of_getElem? (i := 1) rfl, List.mem_of_getElem? (i := 2) rfl, List.mem_of_getElem? (i := 3) rfl, trivial⟩) hw) (k_call (js := []) (R := [ob v20, ob v17, ob v16, D6, ob v12, D4, ob v13, ob v14, D5, ob v10, ob v7, ob v6, D3, ob v2, D1, ob v3, ob v4, D2]) Fun_14 rfl rfl (fun w1 hw ap hl => m_l_toRule_ok hw.fro N p0 ph0_0 ph0_1 ph0_2  hx12)) rfl (fun v21 Φ_9 F9 q9 => ?_))
  obtain ⟨ap9, fr9, v22, D7, v23, v24, D8, rfl, rfl, h13, h14, h15⟩ := q9
  replace ph2 := ph2.frame RI.lasts fr9 (ap9.o pa2)
  replace ph0_0 := ph0_0.frame RTPat.lasts fr9 (ap9.o pa0_0)
  replace ph0_1 := ph0_1.frame RTCond.lasts fr9 (ap9.o pa0_1)
  replace ph0_2 := ph0_2.frame RTAct.lasts fr9 (ap9.o pa0_2)
  replace ph1_0 := ph1_0.frame RTItem.lasts fr9 (ap9.o pa1_0)
  replace h10 := h10.frame OTItem.lasts fr9 (ap9.r (i := 2) rfl) (ap9.r (i := 3) rfl)
  replace h11 := h11.frame RI.lasts fr9 (ap9.r (i := 1) rfl) (Dj.nil _)
  replace h12 := h12.frame RTBind.lasts fr9 (ap9.r (i := 0) rfl) (Dj.nil _)
  replace h6 := h6.frame RTBind.lasts fr9 (ap9.r (i := 9) rfl) (Dj.nil _)
  replace h7 := h7.frame OTPat.lasts fr9 (ap9.r (i := 4) rfl) (ap9.r (i := 5) rfl)
  replace h8 := h8.frame RTCond.lasts fr9 (ap9.r (i := 6) rfl) (Dj.nil _)
  replace h9 := h9.frame OTAct.lasts fr9 (ap9.r (i := 7) rfl) (ap9.r (i := 8) rfl)
  obtain ⟨x13, hx13, h⟩ := bind_some h
  refine WM.one 3 (by kernel_rfl) (mp rfl (fun _ w1 hw => Kn.of (fun k hk _ _ => by simp at hk) (AllIn.mem ⟨List.mem_of_getElem? (i := 0) rfl, List.mem_of_getElem? (i := 1) rfl, List.mem_of_getElem? (i := 2) rfl, List.mem_of_getElem? (i := 3) rfl, trivial⟩) hw) (p_call Fun_19 rfl (fun w1 hw => m_l_eqRule_ok hw.fro N x7 x12 (h7.rslG OTPat.gives) h8.rsl (h9.rslG OTAct.gives) (h13.rslG OTPat.gives) h14.rsl (h15.rslG OTAct.gives) hx13)) rfl ?_)
  refine mq 4 rfl (by kernel_rfl) (fun w1 hw => Kn.of (fun k hk _ _ => by simp at hk) (AllIn.mem ⟨List.mem_of_getElem? (i := 0) rfl, List.mem_of_getElem? (i := 1) rfl, List.mem_of_getElem? (i := 2) rfl, List.mem_of_getElem? (i := 3) rfl, trivial⟩) hw) (q_not rfl) rfl ?_
  refine WM.nil (by kernel_rfl) ?_
  refine WT.cond rfl (fun c6 => ?_) (fun c6 => ?_)
  · replace h := ite_t h c6
    refine WT.seq ?_
    refine WT.region ?_
    refine lq (q_assign rfl) rfl ?_
    refine WL.nil ?_
    refine WT.ret Try.func4 (resOk.one rfl) (fun w1 hw => ?_)
    cases h
    exact post_of_St hw
  replace h := ite_f h c6
  refine WT.skip ?_
  refine WT.seq ?_
  refine WT.seq ?_
  refine WT.mix (Kn Φ_9 [] [(b_4, .cells #[v16, .int .i64 x8.Next] 55 (0, 0)), (b_3, .cells #[.string x7.Name, .int .i64 x7.Sal, v12, v13, v14] 51 (0, 0)), (b_2, .cells #[pv1_0, .int .i64 p1.Next] 40 (0, 0)), (b_1, .cells #[.string p0.Name, .int .i64 p0.Sal, pv0_0, pv0_1, pv0_2] 37 (0, 0))]) (fun _ => true) mixed (fun _ h => h.drew) ?_
  refine mq 0 rfl (by kernel_rfl) (fun w1 hw => Kn.of (fun k hk _ _ => by simp at hk) (AllIn.mem ⟨List.mem_of_getElem? (i := 0) rfl, List.mem_of_getElem? (i := 1) rfl, List.mem_of_getElem? (i := 2) rfl, List.mem_of_getElem? (i := 3) rfl, trivial⟩) hw) (q_loadN Tn_55 rfl (fun w1 hw => hw.rgO (i := 0) rfl 0 2 [v16, .int .i64 x8.Next] rfl) rfl) rfl ?_
  refine mq 1 rfl (by kernel_rfl) (fun w1 hw => Kn.of (fun k hk _ _ => by simp at hk) (AllIn.mem ⟨List.mem_of_getElem? (i := 0) rfl, List.mem_of_getElem? (i := 1) rfl, List.mem_of_getElem? (i := 2) rfl, List.mem_of_getElem? (i := 3) rfl, trivial⟩) hw) (q_loadN Tn_40 rfl (fun w1 hw => hw.rgO (i := 2) rfl 0 2 [pv1_0, .int .i64 p1.Next] rfl) rfl) rfl ?_
  obtain ⟨x14, hx14, h⟩ := bind_some h
  refine WM.one 2 (by kernel_rfl) (mc rfl (fun _ v Φx D w1 hq hw => Kn.of (fun k hk _ _ => by simp at hk) (AllIn.mem ⟨List.mem_of_getElem? (i := 0) rfl, List.mem_of_getElem? (i := 1) rfl, List.mem_of_getElem? (i := 2) rfl, List.mem_of_getElem? (i := 3) rfl, trivial⟩) hw) (k_call (js := []) (R := [ob v22, D7, ob v23, ob v24, D8, ob v20, ob v17, ob v16, D6, ob v12, D4, ob v13, ob v14, D5, ob v10, ob v7, ob v6, D3, ob v2, D1, ob v3, ob v4, D2]) Fun_15 rfl rfl (fun w1 hw ap hl => m_l_toStore_ok hw.fro N p1 ph1_0  hx14)) rfl (fun v25 Φ_10 F10 q10 => ?_))
  obtain ⟨ap10, fr10, v26, D9, rfl, rfl, h16⟩ := q10
  replace ph2 := ph2.frame RI.lasts fr10 (ap10.o pa2)
  replace ph0_0 := ph0_0.frame RTPat.lasts fr10 (ap10.o pa0_0)
  replace ph0_1 := ph0_1.frame RTCond.lasts fr10 (ap10.o pa0_1)
  replace ph0_2 := ph0_2.frame RTAct.lasts fr10 (ap10.o pa0_2)
  replace ph1_0 := ph1_0.frame RTItem.lasts fr10 (ap10.o pa1_0)
  replace h10 := h10.frame OTItem.lasts fr10 (ap10.r (i := 7) rfl) (ap10.r (i := 8) rfl)
  replace h11 := h11.frame RI.lasts fr10 (ap10.r (i := 6) rfl) (Dj.nil _)
  replace h12 := h12.frame RTBind.lasts fr10 (ap10.r (i := 5) rfl) (Dj.nil _)
  replace h6 := h6.frame RTBind.lasts fr10 (ap10.r (i := 14) rfl) (Dj.nil _)
  replace h7 := h7.frame OTPat.lasts fr10 (ap10.r (i := 9) rfl) (ap10.r (i := 10) rfl)
  replace h8 := h8.frame RTCond.lasts fr10 (ap10.r (i := 11) rfl) (Dj.nil _)
  replace h9 := h9.frame OTAct.lasts fr10 (ap10.r (i := 12) rfl) (ap10.r (i := 13) rfl)
  obtain ⟨x15, hx15, h⟩ := bind_some h
  refine WM.one 3 (by kernel_rfl) (mp rfl (fun _ w1 hw => Kn.of (fun k hk _ _ => by simp at hk) (AllIn.mem ⟨List.mem_of_getElem? (i := 0) rfl, List.mem_of_getElem? (i := 1) rfl, List.mem_of_getElem? (i := 2) rfl, List.mem_of_getElem? (i := 3) rfl, trivial⟩) hw) (p_call Fun_20 rfl (fun w1 hw => m_l_eqStore_ok hw.fro N x8 x14 (h10.rslG OTItem.gives) (h16.rslG OTItem.gives) hx15)) rfl ?_)
  refine mq 4 rfl (by kernel_rfl) (fun w1 hw => Kn.of (fun k hk _ _ => by simp at hk) (AllIn.mem ⟨List.mem_of_getElem? (i := 0) rfl, List.mem_of_getElem? (i := 1) rfl, List.mem_of_getElem? (i := 2) rfl, List.mem_of_getElem? (i := 3) rfl, trivial⟩) hw) (q_not rfl) rfl ?_
  refine WM.nil (by kernel_rfl) ?_
  refine WT.cond rfl (fun c7 => ?_) (fun c7 => ?_)
  · replace h := ite_t h c7
    refine WT.seq ?_
    refine WT.region ?_
    refine lq (q_assign rfl) rfl ?_
    refine WL.nil ?_
    refine WT.ret Try.func4 (resOk.one rfl) (fun w1 hw => ?_)
    cases h
    exact post_of_St hw
  replace h := ite_f h c7
  refine WT.skip ?_
  refine WT.seq ?_
  refine WT.seq ?_
  refine WT.region ?_
  refine lq (q_move rfl) rfl ?_
  refine lq (q_move rfl) rfl ?_
  obtain ⟨x16, hx16, h⟩ := bind_some h
  refine lc (k_call (js := []) (R := [ob v26, D9, ob v22, D7, ob v23, ob v24, D8, ob v20, ob v17, ob v16, D6, ob v12, D4, ob v13, ob v14, D5, ob v10, ob v7, ob v6, D3, ob v2, D1, ob v3, ob v4, D2]) Fun_16 rfl rfl (fun w1 hw ap hl => m_l_toIntS_ok hw.fro N p2 ph2  hx16)) rfl (fun v27 Φ_11 F11 q11 => ?_)
  obtain ⟨ap11, fr11, v28, rfl, rfl, h17⟩ := q11
  replace ph2 := ph2.frame RI.lasts fr11 (ap11.o pa2)
  replace ph0_0 := ph0_0.frame RTPat.lasts fr11 (ap11.o pa0_0)
  replace ph0_1 := ph0_1.frame RTCond.lasts fr11 (ap11.o pa0_1)
  replace ph0_2 := ph0_2.frame RTAct.lasts fr11 (ap11.o pa0_2)
  replace ph1_0 := ph1_0.frame RTItem.lasts fr11 (ap11.o pa1_0)
  replace h10 := h10.frame OTItem.lasts fr11 (ap11.r (i := 9) rfl) (ap11.r (i := 10) rfl)
  replace h11 := h11.frame RI.lasts fr11 (ap11.r (i := 8) rfl) (Dj.nil _)
  replace h12 := h12.frame RTBind.lasts fr11 (ap11.r (i := 7) rfl) (Dj.nil _)
  replace h6 := h6.frame RTBind.lasts fr11 (ap11.r (i := 16) rfl) (Dj.nil _)
  replace h7 := h7.frame OTPat.lasts fr11 (ap11.r (i := 11) rfl) (ap11.r (i := 12) rfl)
  replace h8 := h8.frame RTCond.lasts fr11 (ap11.r (i := 13) rfl) (Dj.nil _)
  replace h9 := h9.frame OTAct.lasts fr11 (ap11.r (i := 14) rfl) (ap11.r (i := 15) rfl)
  obtain ⟨x17, hx17, h⟩ := bind_some h
  refine lp (p_call Fun_21 rfl (fun w1 hw => m_l_eqIntS_ok hw.fro N x9 x16 h11.rsl h17.rsl hx17)) rfl ?_
  refine lq (q_not rfl) rfl ?_
  refine WL.nil ?_
  refine WT.cond rfl (fun c8 => ?_) (fun c8 => ?_)
  · replace h := ite_t h c8
    refine WT.seq ?_
    refine WT.region ?_
    refine lq (q_assign rfl) rfl ?_
    refine WL.nil ?_
    refine WT.ret Try.func4 (resOk.one rfl) (fun w1 hw => ?_)
    cases h
    exact post_of_St hw
  replace h := ite_f h c8
  refine WT.skip ?_
  refine WT.seq ?_
  refine WT.region ?_
  refine lq (q_assign rfl) rfl ?_
  refine WL.nil ?_
  refine WT.seq ?_
  refine WT.region ?_
  refine lq (q_loadN Tn_51 rfl (fun w1 hw => hw.rgO (i := 1) rfl 0 5 [.string x7.Name, .int .i64 x7.Sal, v12, v13, v14] rfl) rfl) rfl ?_
  refine lq (q_move rfl) rfl ?_
  obtain ⟨x18, hx18, h⟩ := bind_some h
  refine lc (k_call (js := [12, 12, 12, 12, 12]) (R := [ob v27, ob v26, D9, ob v22, D7, ob v23, ob v24, D8, ob v20, ob v17, ob v16, D6, ob v10, ob v7, ob v6, D3, ob v2, D1, ob v3, ob v4, D2]) Fun_22 rfl rfl (fun w1 hw ap hl => m_l_markRule_ok hw.fro N x7 1 h7 h8 h9 ap.nd hl hx18)) rfl (fun v29 Φ_12 F12 q12 => ?_)
  obtain ⟨ap12, fr12, D10, D11, rfl, rfl, h18, h19, h20⟩ := q12
  replace ph2 := ph2.frame RI.lasts fr12 (ap12.o pa2)
  replace ph0_0 := ph0_0.frame RTPat.lasts fr12 (ap12.o pa0_0)
  replace ph0_1 := ph0_1.frame RTCond.lasts fr12 (ap12.o pa0_1)
  replace ph0_2 := ph0_2.frame RTAct.lasts fr12 (ap12.o pa0_2)
  replace ph1_0 := ph1_0.frame RTItem.lasts fr12 (ap12.o pa1_0)
  replace h10 := h10.frame OTItem.lasts fr12 (ap12.r (i := 10) rfl) (ap12.r (i := 11) rfl)
  replace h11 := h11.frame RI.lasts fr12 (ap12.r (i := 9) rfl) (Dj.nil _)
  replace h12 := h12.frame RTBind.lasts fr12 (ap12.r (i := 8) rfl) (Dj.nil _)
  replace h6 := h6.frame RTBind.lasts fr12 (ap12.r (i := 12) rfl) (Dj.nil _)
  refine lq (q_assign rfl) rfl ?_
  refine WL.nil ?_
  refine WT.seq ?_
  refine WT.region ?_
  refine lq (q_loadN Tn_55 rfl (fun w1 hw => hw.rgO (i := 0) rfl 0 2 [v16, .int .i64 x8.Next] rfl) rfl) rfl ?_
  refine lq (q_move rfl) rfl ?_
  obtain ⟨x19, hx19, h⟩ := bind_some h
  refine lc (k_call (js := [15, 15]) (R := [ob v12, D10, ob v13, ob v14, D11, ob v27, ob v26, D9, ob v22, D7, ob v23, ob v24, D8, ob v20, ob v17, ob v10, ob v7, ob v6, D3, ob v2, D1, ob v3, ob v4, D2]) Fun_23 rfl rfl (fun w1 hw ap hl => m_l_markStore_ok hw.fro N x8 x18.1 h10 ap.nd hl hx19)) rfl (fun v30 Φ_13 F13 q13 => ?_)
  obtain ⟨ap13, fr13, D12, rfl, rfl, h21⟩ := q13
  replace ph2 := ph2.frame RI.lasts fr13 (ap13.o pa2)
  replace ph0_0 := ph0_0.frame RTPat.lasts fr13 (ap13.o pa0_0)
  replace ph0_1 := ph0_1.frame RTCond.lasts fr13 (ap13.o pa0_1)
  replace ph0_2 := ph0_2.frame RTAct.lasts fr13 (ap13.o pa0_2)
  replace ph1_0 := ph1_0.frame RTItem.lasts fr13 (ap13.o pa1_0)
  replace h11 := h11.frame RI.lasts fr13 (ap13.r (i := 14) rfl) (Dj.nil _)
  replace h12 := h12.frame RTBind.lasts fr13 (ap13.r (i := 13) rfl) (Dj.nil _)
  replace h6 := h6.frame RTBind.lasts fr13 (ap13.r (i := 15) rfl) (Dj.nil _)
  refine lq (q_assign rfl) rfl ?_
  refine WL.nil ?_
  refine WT.seq ?_
  refine WT.region ?_
  refine lq (q_move rfl) rfl ?_
  refine lq (q_move rfl) rfl ?_
  obtain ⟨x20, hx20, h⟩ := bind_some h
  refine lc (k_call (js := [16]) (R := [ob v16, D12, ob v12, D10, ob v13, ob v14, D11, ob v27, ob v26, D9, ob v22, D7, ob v23, ob v24, D8, ob v20, ob v10, ob v7, ob v6, D3, ob v2, D1, ob v3, ob v4, D2]) Fun_24 rfl rfl (fun w1 hw ap hl => m_l_markIntS_ok hw.fro N x9 x19.1 h11 ap.nd hl hx20)) rfl (fun v31 Φ_14 F14 q14 => ?_)
  obtain ⟨ap14, fr14, rfl, rfl, h22⟩ := q14
  replace ph2 := ph2.frame RI.lasts fr14 (ap14.o pa2)
  replace ph0_0 := ph0_0.frame RTPat.lasts fr14 (ap14.o pa0_0)
  replace ph0_1 := ph0_1.frame RTCond.lasts fr14 (ap14.o pa0_1)
  replace ph0_2 := ph0_2.frame RTAct.lasts fr14 (ap14.o pa0_2)
  replace ph1_0 := ph1_0.frame RTItem.lasts fr14 (ap14.o pa1_0)
  replace h12 := h12.frame RTBind.lasts fr14 (ap14.r (i := 15) rfl) (Dj.nil _)
  replace h6 := h6.frame RTBind.lasts fr14 (ap14.r (i := 16) rfl) (Dj.nil _)
  refine lq (q_assign rfl) rfl ?_
  refine WL.nil ?_
  refine WT.seq ?_
  refine WT.seq ?_
  refine WT.region ?_
  refine lq (q_move rfl) rfl ?_
  refine lq (q_lss rfl rfl) rfl ?_
  refine lq (q_move rfl) rfl ?_
  obtain ⟨b2, hb_2, h⟩ := bind_some h
  refine WL.cutN 5 [(96, .bool b2), (2, pv2), (3, .pointer (some ⟨b_1, 0, none⟩)), (4, .pointer (some ⟨b_2, 0, none⟩)), (8, v10), (9, .bool x6.2), (13, v20), (14, .bool x10.2)] ?_ (fun K => ?_)
  rotate_left
  · refine WL.split (d := 91) rfl (fun c9 => ?_) (fun c9 => ?_)
    · replace hb_2 := ite_t hb_2 c9
      refine WL.no rfl rfl rfl rfl ?_
      refine WL.no rfl rfl rfl rfl ?_
      refine WL.no rfl rfl rfl rfl ?_
      refine WL.no rfl rfl rfl rfl ?_
      refine WL.q (q_pick1 rfl rfl) rfl rfl rfl ?_
      cases hb_2
      exact WL.keep (by exact ⟨rfl, rfl, rfl, rfl, rfl, rfl, rfl, rfl, trivial⟩) K
    · replace hb_2 := ite_f hb_2 c9
      refine WL.yes rfl rfl ?_
      refine lq (q_move rfl) rfl ?_
      refine WL.yes rfl rfl ?_
      refine lq (q_move rfl) rfl ?_
      refine WL.yes rfl rfl ?_
      obtain ⟨x21, hx21, hb_2⟩ := bind_some hb_2
      refine lp (p_call Fun_18 rfl (fun w1 hw => m_l_eqBindS_ok hw.fro N x10.1 x6.1 h12.rsl h6.rsl hx21)) rfl ?_
      refine WL.yes rfl rfl ?_
      refine lq (q_not rfl) rfl ?_
      refine WL.q (q_pick0 rfl rfl) rfl rfl rfl ?_
      cases hb_2
      exact WL.keep (by exact ⟨rfl, rfl, rfl, rfl, rfl, rfl, rfl, rfl, trivial⟩) K
  refine lq (q_move rfl) rfl ?_
  obtain ⟨b3, hb_3, h⟩ := bind_some h
  refine WL.cutN 4 [(101, .bool b3), (2, pv2), (3, .pointer (some ⟨b_1, 0, none⟩)), (4, .pointer (some ⟨b_2, 0, none⟩)), (8, v10), (9, .bool x6.2), (13, v20)] ?_ (fun K => ?_)
  rotate_left
  · refine WL.split (d := 97) rfl (fun c10 => ?_) (fun c10 => ?_)
    · replace hb_3 := ite_t hb_3 c10
      refine WL.no rfl rfl rfl rfl ?_
      refine WL.no rfl rfl rfl rfl ?_
      refine WL.no rfl rfl rfl rfl ?_
      refine WL.q (q_pick1 rfl rfl) rfl rfl rfl ?_
      cases hb_3
      exact WL.keep (by exact ⟨rfl, rfl, rfl, rfl, rfl, rfl, rfl, trivial⟩) K
    · replace hb_3 := ite_f hb_3 c10
      refine WL.yes rfl rfl ?_
      refine lq (q_move rfl) rfl ?_
      refine WL.yes rfl rfl ?_
      refine lq (q_move rfl) rfl ?_
      refine WL.yes rfl rfl ?_
      refine lq (q_bne Bo_4 rfl rfl) rfl ?_
      refine WL.q (q_pick0 rfl rfl) rfl rfl rfl ?_
      cases hb_3
      exact WL.keep (by exact ⟨rfl, rfl, rfl, rfl, rfl, rfl, rfl, trivial⟩) K
  refine WL.nil ?_
  refine WT.cond rfl (fun c11 => ?_) (fun c11 => ?_)
  · replace h := ite_t h c11
    refine WT.seq ?_
    refine WT.region ?_
    refine lq (q_assign rfl) rfl ?_
    refine WL.nil ?_
    refine WT.ret Try.func4 (resOk.one rfl) (fun w1 hw => ?_)
    cases h
    exact post_of_St hw
  replace h := ite_f h c11
  refine WT.skip ?_
  refine WT.seq ?_
  refine WT.region ?_
  refine lq (q_assign rfl) rfl ?_
  refine WL.nil ?_
  refine WT.seq ?_
  refine WT.region ?_
  refine lq (q_move rfl) rfl ?_
  refine lq (q_move rfl) rfl ?_
  obtain ⟨x22, hx22, h⟩ := bind_some h
  refine lc (k_call (js := [16]) (R := [ob v17, ob v16, D12, ob v12, D10, ob v13, ob v14, D11, ob v27, ob v26, D9, ob v22, D7, ob v23, ob v24, D8, ob v10, ob v7, ob v6, D3, ob v2, D1, ob v3, ob v4, D2]) Fun_25 rfl rfl (fun w1 hw ap hl => m_l_markBindS_ok hw.fro N x10.1 1 h12 ap.nd hl hx22)) rfl (fun v32 Φ_15 F15 q15 => ?_)
  obtain ⟨ap15, fr15, rfl, rfl, h23⟩ := q15
  replace ph2 := ph2.frame RI.lasts fr15 (ap15.o pa2)
  replace ph0_0 := ph0_0.frame RTPat.lasts fr15 (ap15.o pa0_0)
  replace ph0_1 := ph0_1.frame RTCond.lasts fr15 (ap15.o pa0_1)
  replace ph0_2 := ph0_2.frame RTAct.lasts fr15 (ap15.o pa0_2)
  replace ph1_0 := ph1_0.frame RTItem.lasts fr15 (ap15.o pa1_0)
  replace h6 := h6.frame RTBind.lasts fr15 (ap15.r (i := 16) rfl) (Dj.nil _)
  refine lq (q_assign rfl) rfl ?_
  refine WL.nil ?_
  refine WT.seq ?_
  refine WT.region ?_
  refine lq (q_assign rfl) rfl ?_
  refine WL.nil ?_
  refine WT.seq ?_
  refine WT.region ?_
  refine lq (q_move rfl) rfl ?_
  refine lq (q_move rfl) rfl ?_
  obtain ⟨x23, hx23, h⟩ := bind_some h
  refine lp (p_call Fun_26 rfl (fun w1 hw => m_l_heldBindS_ok hw.fro N x22.2 1 h23.rsl hx23)) rfl ?_
  refine lq (q_assign rfl) rfl ?_
  refine WL.nil ?_
  refine WT.seq ?_
  refine WT.seq ?_
  refine WT.region ?_
  refine lq (q_move rfl) rfl ?_
  refine lq (q_lss rfl rfl) rfl ?_
  refine WL.nil ?_
  refine WT.cond rfl (fun c12 => ?_) (fun c12 => ?_)
  · replace h := ite_t h c12
    refine WT.seq ?_
    refine WT.region ?_
    refine lq (q_assign rfl) rfl ?_
    refine WL.nil ?_
    refine WT.ret Try.func4 (resOk.one rfl) (fun w1 hw => ?_)
    cases h
    exact post_of_St hw
  replace h := ite_f h c12
  refine WT.skip ?_
  refine WT.seq ?_
  refine WT.seq ?_
  refine WT.region ?_
  refine lq (q_move rfl) rfl ?_
  refine lq (q_move rfl) rfl ?_
  refine lq (q_neq rfl rfl) rfl ?_
  refine WL.nil ?_
  refine WT.cond rfl (fun c13 => ?_) (fun c13 => ?_)
  · replace h := ite_t h c13
    refine WT.seq ?_
    refine WT.region ?_
    refine lq (q_assign rfl) rfl ?_
    refine WL.nil ?_
    refine WT.ret Try.func4 (resOk.one rfl) (fun w1 hw => ?_)
    cases h
    exact post_of_St hw
  replace h := ite_f h c13
  refine WT.skip ?_
  refine WT.seq ?_
  refine WT.mix (Kn Φ_15 [] [(b_4, .cells #[v16, .int .i64 x8.Next] 55 (0, 0)), (b_3, .cells #[.string x7.Name, .int .i64 x7.Sal, v12, v13, v14] 51 (0, 0)), (b_2, .cells #[pv1_0, .int .i64 p1.Next] 40 (0, 0)), (b_1, .cells #[.string p0.Name, .int .i64 p0.Sal, pv0_0, pv0_1, pv0_2] 37 (0, 0))]) (fun _ => true) mixed (fun _ h => h.drew) ?_
  refine mq 0 rfl (by kernel_rfl) (fun w1 hw => Kn.of (fun k hk _ _ => by simp at hk) (AllIn.mem ⟨List.mem_of_getElem? (i := 0) rfl, List.mem_of_getElem? (i := 1) rfl, List.mem_of_getElem? (i := 2) rfl, List.mem_of_getElem? (i := 3) rfl, trivial⟩) hw) (q_loadN Tn_37 rfl (fun w1 hw => hw.rgO (i := 3) rfl 0 5 [.string p0.Name, .int .i64 p0.Sal, pv0_0, pv0_1, pv0_2] rfl) rfl) rfl ?_
  refine mq 2 rfl (by kernel_rfl) (fun w1 hw => Kn.of (fun k hk _ _ => by simp at hk) (AllIn.mem ⟨List.mem_of_getElem? (i := 0) rfl, List.mem_of_getElem? (i := 1) rfl, List.mem_of_getElem? (i := 2) rfl, List.mem_of_getElem? (i := 3) rfl, trivial⟩) hw) (q_loadN Tn_40 rfl (fun w1 hw => hw.rgO (i := 2) rfl 0 2 [pv1_0, .int .i64 p1.Next] rfl) rfl) rfl ?_
  refine mq 4 rfl (by kernel_rfl) (fun w1 hw => Kn.of (fun k hk _ _ => by simp at hk) (AllIn.mem ⟨List.mem_of_getElem? (i := 0) rfl, List.mem_of_getElem? (i := 1) rfl, List.mem_of_getElem? (i := 2) rfl, List.mem_of_getElem? (i := 3) rfl, trivial⟩) hw) (q_move rfl) rfl ?_
  obtain ⟨x24, hx24, h⟩ := bind_some h
  refine WM.one 1 (by kernel_rfl) (mc rfl (fun _ v Φx D w1 hq hw => Kn.of (fun k hk _ _ => by simp at hk) (AllIn.mem ⟨List.mem_of_getElem? (i := 0) rfl, List.mem_of_getElem? (i := 1) rfl, List.mem_of_getElem? (i := 2) rfl, List.mem_of_getElem? (i := 3) rfl, trivial⟩) hw) (k_call (js := []) (R := [ob v20, ob v17, ob v16, D12, ob v12, D10, ob v13, ob v14, D11, ob v27, ob v26, D9, ob v22, D7, ob v23, ob v24, D8, ob v10, ob v7, ob v6, D3, ob v2, D1, ob v3, ob v4, D2]) Fun_14 rfl rfl (fun w1 hw ap hl => m_l_toRule_ok hw.fro N p0 ph0_0 ph0_1 ph0_2  hx24)) rfl (fun v33 Φ_16 F16 q16 => ?_))
  obtain ⟨ap16, fr16, v34, D13, v35, v36, D14, rfl, rfl, h24, h25, h26⟩ := q16
  replace ph1_0 := ph1_0.frame RTItem.lasts fr16 (ap16.o pa1_0)
  replace ph2 := ph2.frame RI.lasts fr16 (ap16.o pa2)
  replace h23 := h23.frame RTBind.lasts fr16 (ap16.r (i := 0) rfl) (Dj.nil _)
  replace h6 := h6.frame RTBind.lasts fr16 (ap16.r (i := 17) rfl) (Dj.nil _)
  obtain ⟨x25, hx25, h⟩ := bind_some h
  refine WM.one 3 (by kernel_rfl) (mc rfl (fun _ v Φx D w1 hq hw => Kn.of (fun k hk _ _ => by simp at hk) (AllIn.mem ⟨List.mem_of_getElem? (i := 0) rfl, List.mem_of_getElem? (i := 1) rfl, List.mem_of_getElem? (i := 2) rfl, List.mem_of_getElem? (i := 3) rfl, trivial⟩) hw) (k_call (js := []) (R := [ob v34, D13, ob v35, ob v36, D14, ob v20, ob v17, ob v16, D12, ob v12, D10, ob v13, ob v14, D11, ob v27, ob v26, D9, ob v22, D7, ob v23, ob v24, D8, ob v10, ob v7, ob v6, D3, ob v2, D1, ob v3, ob v4, D2]) Fun_15 rfl rfl (fun w1 hw ap hl => m_l_toStore_ok hw.fro N p1 ph1_0  hx25)) rfl (fun v37 Φ_17 F17 q17 => ?_))
  obtain ⟨ap17, fr17, v38, D15, rfl, rfl, h27⟩ := q17
  replace ph2 := ph2.frame RI.lasts fr17 (ap17.o pa2)
  replace h23 := h23.frame RTBind.lasts fr17 (ap17.r (i := 5) rfl) (Dj.nil _)
  replace h24 := h24.frame OTPat.lasts fr17 (ap17.r (i := 0) rfl) (ap17.r (i := 1) rfl)
  replace h25 := h25.frame RTCond.lasts fr17 (ap17.r (i := 2) rfl) (Dj.nil _)
  replace h26 := h26.frame OTAct.lasts fr17 (ap17.r (i := 3) rfl) (ap17.r (i := 4) rfl)
  replace h6 := h6.frame RTBind.lasts fr17 (ap17.r (i := 22) rfl) (Dj.nil _)
  obtain ⟨x26, hx26, h⟩ := bind_some h
  refine WM.one 5 (by kernel_rfl) (mc rfl (fun _ v Φx D w1 hq hw => Kn.of (fun k hk _ _ => by simp at hk) (AllIn.mem ⟨List.mem_of_getElem? (i := 0) rfl, List.mem_of_getElem? (i := 1) rfl, List.mem_of_getElem? (i := 2) rfl, List.mem_of_getElem? (i := 3) rfl, trivial⟩) hw) (k_call (js := []) (R := [ob v38, D15, ob v34, D13, ob v35, ob v36, D14, ob v20, ob v17, ob v16, D12, ob v12, D10, ob v13, ob v14, D11, ob v27, ob v26, D9, ob v22, D7, ob v23, ob v24, D8, ob v10, ob v7, ob v6, D3, ob v2, D1, ob v3, ob v4, D2]) Fun_16 rfl rfl (fun w1 hw ap hl => m_l_toIntS_ok hw.fro N p2 ph2  hx26)) rfl (fun v39 Φ_18 F18 q18 => ?_))
  obtain ⟨ap18, fr18, v40, rfl, rfl, h28⟩ := q18
  replace h23 := h23.frame RTBind.lasts fr18 (ap18.r (i := 7) rfl) (Dj.nil _)
  replace h24 := h24.frame OTPat.lasts fr18 (ap18.r (i := 2) rfl) (ap18.r (i := 3) rfl)
  replace h25 := h25.frame RTCond.lasts fr18 (ap18.r (i := 4) rfl) (Dj.nil _)
  replace h26 := h26.frame OTAct.lasts fr18 (ap18.r (i := 5) rfl) (ap18.r (i := 6) rfl)
  replace h27 := h27.frame OTItem.lasts fr18 (ap18.r (i := 0) rfl) (ap18.r (i := 1) rfl)
  replace h6 := h6.frame RTBind.lasts fr18 (ap18.r (i := 24) rfl) (Dj.nil _)
  obtain ⟨x27, hx27, h⟩ := bind_some h
  refine WM.one 6 (by kernel_rfl) (mc rfl (fun _ v Φx D w1 hq hw => Kn.of (fun k hk _ _ => by simp at hk) (AllIn.mem ⟨List.mem_of_getElem? (i := 0) rfl, List.mem_of_getElem? (i := 1) rfl, List.mem_of_getElem? (i := 2) rfl, List.mem_of_getElem? (i := 3) rfl, trivial⟩) hw) (k_call (js := []) (R := [ob v39, ob v38, D15, ob v34, D13, ob v35, ob v36, D14, ob v20, ob v17, ob v16, D12, ob v12, D10, ob v13, ob v14, D11, ob v27, ob v26, D9, ob v22, D7, ob v23, ob v24, D8, ob v10, ob v7, ob v6, D3, ob v2, D1, ob v3, ob v4, D2]) Fun_17 rfl rfl (fun w1 hw ap hl => m_i_BindsFor_ok hw.fro N x24 x25 x26 (h24.rslG OTPat.gives) h25.rsl (h26.rslG OTAct.gives) (h27.rslG OTItem.gives) h28.rsl  hx27)) rfl (fun v41 Φ_19 F19 q19 => ?_))
  obtain ⟨ap19, fr19, v42, rfl, rfl, h29⟩ := q19
  replace h23 := h23.frame RTBind.lasts fr19 (ap19.r (i := 8) rfl) (Dj.nil _)
  replace h6 := h6.frame RTBind.lasts fr19 (ap19.r (i := 25) rfl) (Dj.nil _)
  refine mq 7 rfl (by kernel_rfl) (fun w1 hw => Kn.of (fun k hk _ _ => by simp at hk) (AllIn.mem ⟨List.mem_of_getElem? (i := 0) rfl, List.mem_of_getElem? (i := 1) rfl, List.mem_of_getElem? (i := 2) rfl, List.mem_of_getElem? (i := 3) rfl, trivial⟩) hw) (q_move rfl) rfl ?_
  refine mq 8 rfl (by kernel_rfl) (fun w1 hw => Kn.of (fun k hk _ _ => by simp at hk) (AllIn.mem ⟨List.mem_of_getElem? (i := 0) rfl, List.mem_of_getElem? (i := 1) rfl, List.mem_of_getElem? (i := 2) rfl, List.mem_of_getElem? (i := 3) rfl, trivial⟩) hw) (q_extract rfl rfl) rfl ?_
  refine mq 9 rfl (by kernel_rfl) (fun w1 hw => Kn.of (fun k hk _ _ => by simp at hk) (AllIn.mem ⟨List.mem_of_getElem? (i := 0) rfl, List.mem_of_getElem? (i := 1) rfl, List.mem_of_getElem? (i := 2) rfl, List.mem_of_getElem? (i := 3) rfl, trivial⟩) hw) (q_extract rfl rfl) rfl ?_
  refine mq 10 rfl (by kernel_rfl) (fun w1 hw => Kn.of (fun k hk _ _ => by simp at hk) (AllIn.mem ⟨List.mem_of_getElem? (i := 0) rfl, List.mem_of_getElem? (i := 1) rfl, List.mem_of_getElem? (i := 2) rfl, List.mem_of_getElem? (i := 3) rfl, trivial⟩) hw) (q_assign rfl) rfl ?_
  refine mq 11 rfl (by kernel_rfl) (fun w1 hw => Kn.of (fun k hk _ _ => by simp at hk) (AllIn.mem ⟨List.mem_of_getElem? (i := 0) rfl, List.mem_of_getElem? (i := 1) rfl, List.mem_of_getElem? (i := 2) rfl, List.mem_of_getElem? (i := 3) rfl, trivial⟩) hw) (q_assign rfl) rfl ?_
  refine WM.nil (by kernel_rfl) ?_
  refine WT.seq ?_
  refine WT.seq ?_
  refine WT.region ?_
  refine lq (q_move rfl) rfl ?_
  refine lq (q_move rfl) rfl ?_
  obtain ⟨x28, hx28, h⟩ := bind_some h
  refine lp (p_call Fun_18 rfl (fun w1 hw => m_l_eqBindS_ok hw.fro N x27.1 x6.1 h29.rsl h6.rsl hx28)) rfl ?_
  refine lq (q_not rfl) rfl ?_
  refine lq (q_move rfl) rfl ?_
  obtain ⟨b4, hb_4, h⟩ := bind_some h
  refine WL.cutN 4 [(131, .bool b4), (13, v20), (16, .int .i64 x22.1)] ?_ (fun K => ?_)
  rotate_left
  · refine WL.split (d := 127) rfl (fun c14 => ?_) (fun c14 => ?_)
    · replace hb_4 := ite_t hb_4 c14
      refine WL.no rfl rfl rfl rfl ?_
      refine WL.no rfl rfl rfl rfl ?_
      refine WL.no rfl rfl rfl rfl ?_
      refine WL.q (q_pick1 rfl rfl) rfl rfl rfl ?_
      cases hb_4
      exact WL.keep (by exact ⟨rfl, rfl, rfl, trivial⟩) K
    · replace hb_4 := ite_f hb_4 c14
      refine WL.yes rfl rfl ?_
      refine lq (q_move rfl) rfl ?_
      refine WL.yes rfl rfl ?_
      refine lq (q_move rfl) rfl ?_
      refine WL.yes rfl rfl ?_
      refine lq (q_bne Bo_4 rfl rfl) rfl ?_
      refine WL.q (q_pick0 rfl rfl) rfl rfl rfl ?_
      cases hb_4
      exact WL.keep (by exact ⟨rfl, rfl, rfl, trivial⟩) K
  refine WL.nil ?_
  refine WT.cond rfl (fun c15 => ?_) (fun c15 => ?_)
  · replace h := ite_t h c15
    refine WT.seq ?_
    refine WT.region ?_
    refine lq (q_assign rfl) rfl ?_
    refine WL.nil ?_
    refine WT.ret Try.func4 (resOk.one rfl) (fun w1 hw => ?_)
    cases h
    exact post_of_St hw
  replace h := ite_f h c15
  refine WT.skip ?_
  refine WT.seq ?_
  refine WT.region ?_
  refine lq (q_assign rfl) rfl ?_
  refine WL.nil ?_
  refine WT.seq ?_
  refine WT.region ?_
  refine lq (q_move rfl) rfl ?_
  refine lq (q_move rfl) rfl ?_
  obtain ⟨x29, hx29, h⟩ := bind_some h
  refine lp (p_call Fun_26 rfl (fun w1 hw => m_l_heldBindS_ok hw.fro N x22.2 1 h23.rsl hx29)) rfl ?_
  refine lq (q_assign rfl) rfl ?_
  refine WL.nil ?_
  refine WT.seq ?_
  refine WT.seq ?_
  refine WT.region ?_
  refine lq (q_move rfl) rfl ?_
  refine lq (q_lss rfl rfl) rfl ?_
  refine WL.nil ?_
  refine WT.cond rfl (fun c16 => ?_) (fun c16 => ?_)
  · replace h := ite_t h c16
    refine WT.seq ?_
    refine WT.region ?_
    refine lq (q_assign rfl) rfl ?_
    refine WL.nil ?_
    refine WT.ret Try.func4 (resOk.one rfl) (fun w1 hw => ?_)
    cases h
    exact post_of_St hw
  replace h := ite_f h c16
  refine WT.skip ?_
  refine WT.seq ?_
  refine WT.seq ?_
  refine WT.region ?_
  refine lq (q_move rfl) rfl ?_
  refine lq (q_move rfl) rfl ?_
  refine lq (q_neq rfl rfl) rfl ?_
  refine WL.nil ?_
  refine WT.cond rfl (fun c17 => ?_) (fun c17 => ?_)
  · replace h := ite_t h c17
    refine WT.seq ?_
    refine WT.region ?_
    refine lq (q_assign rfl) rfl ?_
    refine WL.nil ?_
    refine WT.ret Try.func4 (resOk.one rfl) (fun w1 hw => ?_)
    cases h
    exact post_of_St hw
  replace h := ite_f h c17
  refine WT.skip ?_
  refine WT.seq ?_
  refine WT.region ?_
  refine lq (q_assign rfl) rfl ?_
  refine WL.nil ?_
  refine WT.ret Try.func4 (resOk.one rfl) (fun w1 hw => ?_)
  cases h
  exact post_of_St hw
end Go.Proofs.Ytjangilipfjcmaa
