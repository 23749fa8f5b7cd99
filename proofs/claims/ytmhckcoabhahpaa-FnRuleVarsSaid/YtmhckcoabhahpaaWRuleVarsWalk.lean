/- Printed by a program of ours: each Go function computes its Lean function. -/
import Derived.Test.YtmhckcoabhahpaaProg
import Derived.Test.YtmhckcoabhahpaaWRuleVarsWalk2
namespace Go.Proofs.Ytmhckcoabhahpaa
open Eng
open Go.RowKit (Below)
set_option linter.unusedVariables false
set_option linter.unusedSimpArgs false

set_option maxRecDepth 100000
set_option maxHeartbeats 1000000
theorem m_i_addOnce_ok {Φ : Hp} {w : World} (hΦ : In Φ w) (N : Nat) (p0 : (List ByteArray)) (p1 : ByteArray) {pv0 : Value} (ph0 : OSl RS 9 1 Φ [] pv0 p0) (hB : [ob pv0].flatten.Nodup) (hlt : ∀ k ∈ [ob pv0].flatten, k < w.heap.size) {r : (List ByteArray)} (h : m_i_addOnce N p0 p1 = some r) :
  Calls Try.prog 110 [pv0, .string p1].toArray w (PostG Φ w [ob pv0].flatten (fun Φ' Fs v => ∃ (sr_0_0 : Value), v = sr_0_0 ∧ Fs = [ob sr_0_0] ∧ OSl RS 9 1 Φ' [] sr_0_0 r)) := by
 refine enter Try.func110 rfl Try.ntmps110 rfl (St.start hΦ [ob pv0] hB hlt) ?_
 unfold m_i_addOnce at h
 refine WT.seq <| WT.region <| lq (q_assign rfl) rfl <| WL.nil <| WT.seq <| WT.seq <| WT.region <| lq (q_move rfl) rfl <| lq (q_move rfl) rfl ?_
 obtain ⟨x1, hx1, h⟩ := bind_some h
 refine lp (p_call Fun_163 rfl (fun w1 hw => m_sl_Contains_Sstring_string_ok hw.fro N p0 p1 ph0.rsl hx1)) rfl <| WL.nil ?_
 refine WT.cond rfl (fun c1 => ?_) (fun c1 => ?_)
 ·replace h := ite_t h c1
  refine WT.seq <| WT.region <| lq (q_move rfl) rfl <| lq (q_assign rfl) rfl <| WL.nil ?_
  refine WT.ret Try.func110 (resOk.one rfl) (fun w1 hw => ?_)
  cases h
  refine postG_of_St (js := [0]) hw rfl ⟨pv0, rfl, rfl, ph0⟩
 replace h := ite_f h c1
 refine WT.skip <| WT.seq <| WT.region <| lq (q_move rfl) rfl <| lq (q_move rfl) rfl ?_
 have rc1 : RC RS 1 Φ ([[]] : List (List Nat)) [.string p1] ([p1] : List ByteArray) := RC.cons (c := [.string p1]) (cells := []) ⟨rfl, rfl⟩ rfl (RC.nil _ _ _)
 refine le' (e_lit (vs := [(0, .string p1)]) (C := #[.string p1]) RS.lasts Sl_68 Zr_9 rfl rfl rfl rfl (fill_made MC_9_1 (fill_cons (cells := [.string ⟨#[]⟩]) (c := [.string p1]) (C' := [.string p1]) rfl rfl rfl rfl rfl (fill_nil))) rfl rc1 rfl (by simpa using Kw.nil)) rfl (fun v1 Φ_1 D1 q1 => ?_)
 obtain ⟨fr1, h1⟩ := q1
 replace h1 : OSl RS 9 1 Φ_1 [] v1 ([p1] : List ByteArray) := by simpa using h1
 replace ph0 := ph0.frame RS.lasts fr1 (Dj.empty _) (Dj.empty _)
 obtain ⟨x2, hx2, h⟩ := bind_some h
 refine le' (e_appF RS.lasts RS.one RS.flat Sl_68 Ei_9 rfl rfl rfl rfl rfl (js := [1]) (Rr := [ob v1]) rfl ph0 h1.rsl hx2) rfl (fun v2 Φ_2 D2 q2 => ?_)
 obtain ⟨⟨ap1, fr2⟩, h2⟩ := q2
 refine lq (q_assign rfl) rfl <| WL.nil ?_
 refine WT.ret Try.func110 (resOk.one rfl) (fun w1 hw => ?_)
 cases h
 refine postG_of_St (js := [0]) hw rfl ⟨v2, rfl, rfl, h2⟩
theorem m_i_addVars_ok {Φ : Hp} {w : World} (hΦ : In Φ w) (N : Nat) (p0 : (List ByteArray)) (p1 : (List TArg)) {pv0 : Value} {pv1 : Value} {pG1 : List Nat} (ph0 : OSl RS 9 1 Φ [] pv0 p0) (ph1 : RSl RTArg 5 Φ pG1 pv1 p1) (pd1 : Dj pG1 [ob pv0].flatten) (hB : [ob pv0].flatten.Nodup) (hlt : ∀ k ∈ [ob pv0].flatten, k < w.heap.size) {r : (List ByteArray)} (h : m_i_addVars N p0 p1 = some r) :
  Calls Try.prog 109 [pv0, pv1].toArray w (PostG Φ w [ob pv0].flatten (fun Φ' Fs v => ∃ (sr_0_0 : Value), v = sr_0_0 ∧ Fs = [ob sr_0_0] ∧ OSl RS 9 1 Φ' [] sr_0_0 r)) := by
 refine enter Try.func109 rfl Try.ntmps109 rfl (St.start hΦ [ob pv0] hB hlt) ?_
 have pa1 : Old ⟨w, [ob pv0].flatten, Φ⟩ pG1 := Old.mk hΦ ph1.kn pd1
 revert pa1
 generalize hb0 : (⟨w, [ob pv0].flatten, Φ⟩ : Base) = w0
 intro pa1
 unfold m_i_addVars at h
 refine WT.seq <| WT.region <| lq (q_assign rfl) rfl <| WL.nil <| WT.seq <| WT.seq <| WT.region <| lq (q_move rfl) rfl <| lq (q_lenR Sl_35 rfl rfl ph1) rfl <| lq (q_move rfl) rfl <| WL.nil <| WT.block <| WT.loop <| WT.mono (l' := [(0, pv0), (7, pv1), (8, .int .i64 (p1.length : Int)), (9, .int .i64 0)]) (S' := St w0 Φ [] [ob pv0]) ⟨rfl, rfl, rfl, rfl, trivial⟩ (fun w1 hw => (hw.sel (js := [0]) rfl).selO (js := []) rfl) ?_
 refine loop_ind (σ := Hp × (List ByteArray) × Value × Int) (fun s => [(0, s.2.2.1), (7, pv1), (8, .int .i64 (p1.length : Int)), (9, .int .i64 s.2.2.2)]) (fun s => St w0 s.1 [] [ob s.2.2.1]) (fun m s => m_i_addVars_l1 N p1 m s.2.1 s.2.2.2 = some r ∧ (OSl RS 9 1 s.1 [] s.2.2.1 s.2.1) ∧ (RSl RTArg 5 s.1 pG1 pv1 p1)) (fun s hm => none_ne (show (none : Option ((List ByteArray))) = some r from hm.1)) (fun n1 ih1 s hm => ?_) N (Φ, p0, pv0, 0) ⟨h, ph0, ph1⟩
 obtain ⟨Φ_1, s1, u1, s2⟩ := s
 obtain ⟨h, k1, ph1⟩ := hm
 replace h : m_i_addVars_l1 N p1 (n1 + 1) s1 s2 = some r := h
 replace k1 : OSl RS 9 1 Φ_1 [] u1 s1 := k1
 replace ph1 : RSl RTArg 5 Φ_1 pG1 pv1 p1 := ph1
 show WT _ _ [(0, u1), (7, pv1), (8, .int .i64 (p1.length : Int)), (9, .int .i64 s2)] (St w0 Φ_1 [] [ob u1])
 unfold m_i_addVars_l1 at h
 refine WT.seq <| WT.region <| lq (q_lss rfl rfl) rfl <| WL.nil <| WT.seq ?_
 refine WT.cond rfl (fun c1 => ?_) (fun c1 => ?_)
 ·replace h := ite_t h c1
  refine WT.skip <| WT.seq <| WT.block <| WT.seq <| WT.region ?_
  obtain ⟨x1, hx1, h⟩ := bind_some h
  obtain ⟨cs1, F1, -, g1, hb1, hs1, r1⟩ := ph1.el (idx_some hx1).2.2
  obtain ⟨rfl, -⟩ := r1
  refine lq (q_indexAddr Sl_35 rfl rfl ph1 hx1) rfl <| lq (q_loadN Tn_83 rfl (fun w1 hw => (g1.of_eq 0 5 rfl rfl : rg _ _ _ [.int .i64 x1.K, .string x1.S, .int .i64 x1.V.K, .int .i64 x1.V.N, .string x1.V.S]).rangeAt hw.fro) rfl) rfl ?_
  refine ln (n_alloc (C := #[.int .i64 0, .string (⟨#[]⟩ : ByteArray), .int .i64 0, .int .i64 0, .string (⟨#[]⟩ : ByteArray)]) Zr_83 rfl) rfl (fun b_1 => ?_)
  refine ls (s_store (i := 0) (vs := [.int .i64 x1.K, .string x1.S, .int .i64 x1.V.K, .int .i64 x1.V.N, .string x1.V.S]) (C' := [.int .i64 x1.K, .string x1.S, .int .i64 x1.V.K, .int .i64 x1.V.N, .string x1.V.S]) (O' := [(b_1, .cells #[.int .i64 x1.K, .string x1.S, .int .i64 x1.V.K, .int .i64 x1.V.N, .string x1.V.S] 83 (0, 0))]) Sz_83 rfl rfl rfl rfl rfl rfl ⟨rfl, rfl, rfl, rfl, rfl, trivial⟩ rfl rfl) rfl <| WL.nil ?_
  refine WT.seq <| WT.region <| lq (q_fieldAddr Fld_83_0 rfl) rfl <| lq (q_load1 T1_3 rfl (fun w1 hw => hw.rgO (i := 0) rfl 0 1 [.int .i64 x1.K] rfl)) rfl <| lq (q_eql rfl rfl) rfl <| WL.nil ?_
  refine WT.cond rfl (fun c2 => ?_) (fun c2 => ?_)
  ·replace h := ite_t h c2
   refine WT.region <| lq (q_move rfl) rfl <| lq (q_fieldAddr Fld_83_1 rfl) rfl <| lq (q_load1 T1_9 rfl (fun w1 hw => hw.rgO (i := 0) rfl 1 1 [.string x1.S] rfl)) rfl ?_
   obtain ⟨x2, hx2, h⟩ := bind_some h
   refine lc (k_call (js := [0]) (R := []) Fun_110 rfl rfl (fun w1 hw ap hl => m_i_addOnce_ok hw.fro N s1 x1.S k1 ap.nd hl hx2)) rfl (fun v1 Φ_2 F2 q1 => ?_)
   obtain ⟨ap1, fr1, v2, rfl, rfl, h1⟩ := q1
   replace ph1 := ph1.frame RTArg.lasts fr1 (ap1.o pa1)
   refine lq (q_assign rfl) rfl <| WL.nil <| WT.inBlock <| WT.region <| lq (q_add rfl rfl) rfl <| lq (q_move rfl) rfl <| WL.nil ?_
   refine WT.inLoop (WT.mono (l' := [(0, v1), (7, pv1), (8, .int .i64 (p1.length : Int)), (9, .int .i64 (IntKind.i64.wrap (s2 + 1)))]) (S' := St w0 Φ_2 [] [ob v1]) ⟨rfl, rfl, rfl, rfl, trivial⟩ (fun w1 hw => (hw.sel (js := [0]) rfl).selO (js := []) rfl) ?_)
   exact ih1 (Φ_2, x2, v1, IntKind.i64.wrap (s2 + 1)) ⟨h, h1, ph1⟩
  replace h := ite_f h c2
  refine WT.skip <| WT.inBlock <| WT.region <| lq (q_add rfl rfl) rfl <| lq (q_move rfl) rfl <| WL.nil ?_
  refine WT.inLoop (WT.mono (l' := [(0, u1), (7, pv1), (8, .int .i64 (p1.length : Int)), (9, .int .i64 (IntKind.i64.wrap (s2 + 1)))]) (S' := St w0 Φ_1 [] [ob u1]) ⟨rfl, rfl, rfl, rfl, trivial⟩ (fun w1 hw => (hw.sel (js := [0]) rfl).selO (js := []) rfl) ?_)
  exact ih1 (Φ_1, s1, u1, IntKind.i64.wrap (s2 + 1)) ⟨h, k1, ph1⟩
 replace h := ite_f h c1
 refine WT.exit rfl <| WT.seq <| WT.region <| lq (q_move rfl) rfl <| lq (q_assign rfl) rfl <| WL.nil ?_
 refine WT.ret Try.func109 (resOk.one rfl) (fun w1 hw => ?_)
 subst hb0
 cases h
 refine postG_of_St (js := [0]) hw rfl ⟨u1, rfl, rfl, k1⟩
theorem m_i_PosVars_ok {Φ : Hp} {w : World} (hΦ : In Φ w) (N : Nat) (p0 : TRule) {pv0_0 : Value} {pG0_0 : List Nat} {pv0_1 : Value} {pG0_1 : List Nat} {pv0_2 : Value} {pG0_2 : List Nat} (ph0_0 : RSl RTPat 3 Φ pG0_0 pv0_0 p0.Pats) (ph0_1 : RSl RTCond 11 Φ pG0_1 pv0_1 p0.Conds) (ph0_2 : RSl RTAct 5 Φ pG0_2 pv0_2 p0.Acts) {r : (List ByteArray)} (h : m_i_PosVars N p0 = some r) :
  Calls Try.prog 35 [.agg [.string p0.Name, .int .i64 p0.Sal, pv0_0, pv0_1, pv0_2].toArray].toArray w (PostG Φ w [] (fun Φ' Fs v => ∃ (sr_0_0 : Value), v = sr_0_0 ∧ Fs = [ob sr_0_0] ∧ OSl RS 9 1 Φ' [] sr_0_0 r)) := by
 refine enter Try.func35 rfl Try.ntmps35 rfl (St.start0 hΦ) ?_
 have pa0_0 : Old ⟨w, [], Φ⟩ pG0_0 := Old.mk hΦ ph0_0.kn (Dj.empty _)
 revert pa0_0
 generalize hb0 : (⟨w, [], Φ⟩ : Base) = w0
 intro pa0_0
 unfold m_i_PosVars at h
 refine WT.seq <| WT.region ?_
 refine ln (n_box (C := #[.string p0.Name, .int .i64 p0.Sal, pv0_0, pv0_1, pv0_2]) rfl rfl) rfl (fun b_1 => ?_)
 refine lq (q_assign rfl) rfl <| WL.nil <| WT.seq <| WT.region <| lq (q_assign rfl) rfl <| WL.nil <| WT.seq <| WT.seq <| WT.region <| lq (q_fieldAddr Fld_66_2 rfl) rfl <| lq (q_load1 T1_62 rfl (fun w1 hw => hw.rgO (i := 0) rfl 2 1 [pv0_0] rfl)) rfl <| lq (q_lenR Sl_62 rfl rfl ph0_0) rfl <| lq (q_move rfl) rfl <| WL.nil <| WT.block <| WT.loop <| WT.conv (S' := St w0 Φ [(b_1, .cells #[.string p0.Name, .int .i64 p0.Sal, pv0_0, pv0_1, pv0_2] 66 (0, 0))] (ob (.slice none 0 0) :: [])) (fun w1 hw => hw.addNil) ?_
 have k1 := OSl.nil RS 9 1 Φ
 refine WT.mono (l' := [(3, (.slice none 0 0)), (7, pv0_0), (8, .int .i64 (p0.Pats.length : Int)), (9, .int .i64 0)]) (S' := St w0 Φ [] [ob (.slice none 0 0)]) ⟨rfl, rfl, rfl, rfl, trivial⟩ (fun w1 hw => (hw.sel (js := [0]) rfl).selO (js := []) rfl) ?_
 refine loop_ind (σ := Hp × (List ByteArray) × Value × Int) (fun s => [(3, s.2.2.1), (7, pv0_0), (8, .int .i64 (p0.Pats.length : Int)), (9, .int .i64 s.2.2.2)]) (fun s => St w0 s.1 [] [ob s.2.2.1]) (fun m s => m_i_PosVars_l1 N p0 m s.2.1 s.2.2.2 = some r ∧ (OSl RS 9 1 s.1 [] s.2.2.1 s.2.1) ∧ (RSl RTPat 3 s.1 pG0_0 pv0_0 p0.Pats)) (fun s hm => none_ne (show (none : Option ((List ByteArray))) = some r from hm.1)) (fun n1 ih1 s hm => ?_) N (Φ, ([] : List ByteArray), (.slice none 0 0), 0) ⟨h, k1, ph0_0⟩
 obtain ⟨Φ_1, s1, u1, s2⟩ := s
 obtain ⟨h, k2, ph0_0⟩ := hm
 replace h : m_i_PosVars_l1 N p0 (n1 + 1) s1 s2 = some r := h
 replace k2 : OSl RS 9 1 Φ_1 [] u1 s1 := k2
 replace ph0_0 : RSl RTPat 3 Φ_1 pG0_0 pv0_0 p0.Pats := ph0_0
 show WT _ _ [(3, u1), (7, pv0_0), (8, .int .i64 (p0.Pats.length : Int)), (9, .int .i64 s2)] (St w0 Φ_1 [] [ob u1])
 unfold m_i_PosVars_l1 at h
 refine WT.seq <| WT.region <| lq (q_lss rfl rfl) rfl <| WL.nil <| WT.seq ?_
 refine WT.cond rfl (fun c1 => ?_) (fun c1 => ?_)
 ·replace h := ite_t h c1
  refine WT.skip <| WT.seq <| WT.block <| WT.seq <| WT.region ?_
  obtain ⟨x1, hx1, h⟩ := bind_some h
  obtain ⟨cs1, F1, -, g1, hb1, hs1, r1⟩ := ph0_0.el (idx_some hx1).2.2
  obtain ⟨v1, G1, rfl, hq1, h1⟩ := r1
  obtain rfl := hq1.symm
  refine lq (q_indexAddr Sl_62 rfl rfl ph0_0 hx1) rfl <| lq (q_loadN Tn_37 rfl (fun w1 hw => (g1.of_eq 0 3 rfl rfl : rg _ _ _ [.string x1.Kind, v1, .bool x1.Not]).rangeAt hw.fro) rfl) rfl ?_
  refine ln (n_alloc (C := #[.string (⟨#[]⟩ : ByteArray), .slice none 0 0, .bool false]) Zr_37 rfl) rfl (fun b_2 => ?_)
  refine ls (s_store (i := 0) (vs := [.string x1.Kind, v1, .bool x1.Not]) (C' := [.string x1.Kind, v1, .bool x1.Not]) (O' := [(b_2, .cells #[.string x1.Kind, v1, .bool x1.Not] 37 (0, 0))]) Sz_37 rfl rfl rfl rfl rfl rfl ⟨rfl, h1.one, rfl, trivial⟩ rfl rfl) rfl <| WL.nil <| WT.seq <| WT.region <| lq (q_fieldAddr Fld_37_2 rfl) rfl <| lq (q_load1 T1_4 rfl (fun w1 hw => hw.rgO (i := 0) rfl 2 1 [.bool x1.Not] rfl)) rfl <| lq (q_not rfl) rfl ?_
  refine WL.nil ?_
  refine WT.cond rfl (fun c2 => ?_) (fun c2 => ?_)
  ·replace h := ite_t h c2
   refine WT.region <| lq (q_move rfl) rfl <| lq (q_fieldAddr Fld_37_1 rfl) rfl <| lq (q_load1 T1_35 rfl (fun w1 hw => hw.rgO (i := 0) rfl 1 1 [v1] rfl)) rfl ?_
   obtain ⟨x2, hx2, h⟩ := bind_some h
   refine lc (k_call (js := [0]) (R := []) Fun_109 rfl rfl (fun w1 hw ap hl => m_i_addVars_ok hw.fro N s1 x1.Args k2 h1 (Dj.sub (ap.o pa0_0) (fun k h => hs1 k h)) ap.nd hl hx2)) rfl (fun v2 Φ_2 F2 q1 => ?_)
   obtain ⟨ap1, fr1, v3, rfl, rfl, h2⟩ := q1
   replace ph0_0 := ph0_0.frame RTPat.lasts fr1 (ap1.o pa0_0)
   refine lq (q_assign rfl) rfl <| WL.nil <| WT.inBlock <| WT.region <| lq (q_add rfl rfl) rfl <| lq (q_move rfl) rfl <| WL.nil ?_
   refine WT.inLoop (WT.mono (l' := [(3, v2), (7, pv0_0), (8, .int .i64 (p0.Pats.length : Int)), (9, .int .i64 (IntKind.i64.wrap (s2 + 1)))]) (S' := St w0 Φ_2 [] [ob v2]) ⟨rfl, rfl, rfl, rfl, trivial⟩ (fun w1 hw => (hw.sel (js := [0]) rfl).selO (js := []) rfl) ?_)
   exact ih1 (Φ_2, x2, v2, IntKind.i64.wrap (s2 + 1)) ⟨h, h2, ph0_0⟩
  replace h := ite_f h c2
  refine WT.skip <| WT.inBlock <| WT.region <| lq (q_add rfl rfl) rfl <| lq (q_move rfl) rfl <| WL.nil ?_
  refine WT.inLoop (WT.mono (l' := [(3, u1), (7, pv0_0), (8, .int .i64 (p0.Pats.length : Int)), (9, .int .i64 (IntKind.i64.wrap (s2 + 1)))]) (S' := St w0 Φ_1 [] [ob u1]) ⟨rfl, rfl, rfl, rfl, trivial⟩ (fun w1 hw => (hw.sel (js := [0]) rfl).selO (js := []) rfl) ?_)
  exact ih1 (Φ_1, s1, u1, IntKind.i64.wrap (s2 + 1)) ⟨h, k2, ph0_0⟩
 replace h := ite_f h c1
 refine WT.exit rfl <| WT.seq <| WT.region <| lq (q_move rfl) rfl <| lq (q_assign rfl) rfl <| WL.nil ?_
 refine WT.ret Try.func35 (resOk.one rfl) (fun w1 hw => ?_)
 subst hb0
 cases h
 refine postG_of_St (js := [0]) hw rfl ⟨u1, rfl, rfl, k2⟩
theorem m_i_KindsOf_ok {Φ : Hp} {w : World} (hΦ : In Φ w) (N : Nat) (p0 : TRule) {pv0_0 : Value} {pG0_0 : List Nat} {pv0_1 : Value} {pG0_1 : List Nat} {pv0_2 : Value} {pG0_2 : List Nat} (ph0_0 : RSl RTPat 3 Φ pG0_0 pv0_0 p0.Pats) (ph0_1 : RSl RTCond 11 Φ pG0_1 pv0_1 p0.Conds) (ph0_2 : RSl RTAct 5 Φ pG0_2 pv0_2 p0.Acts) {r : (List ByteArray)} (h : m_i_KindsOf N p0 = some r) :
  Calls Try.prog 36 [.agg [.string p0.Name, .int .i64 p0.Sal, pv0_0, pv0_1, pv0_2].toArray].toArray w (PostG Φ w [] (fun Φ' Fs v => ∃ (sr_0_0 : Value), v = sr_0_0 ∧ Fs = [ob sr_0_0] ∧ OSl RS 9 1 Φ' [] sr_0_0 r)) := by
 refine enter Try.func36 rfl Try.ntmps36 rfl (St.start0 hΦ) ?_
 have pa0_0 : Old ⟨w, [], Φ⟩ pG0_0 := Old.mk hΦ ph0_0.kn (Dj.empty _)
 revert pa0_0
 generalize hb0 : (⟨w, [], Φ⟩ : Base) = w0
 intro pa0_0
 unfold m_i_KindsOf at h
 refine WT.seq <| WT.region ?_
 refine ln (n_box (C := #[.string p0.Name, .int .i64 p0.Sal, pv0_0, pv0_1, pv0_2]) rfl rfl) rfl (fun b_1 => ?_)
 refine lq (q_assign rfl) rfl <| WL.nil <| WT.seq <| WT.region <| lq (q_assign rfl) rfl <| WL.nil <| WT.seq <| WT.seq <| WT.region <| lq (q_fieldAddr Fld_66_2 rfl) rfl <| lq (q_load1 T1_62 rfl (fun w1 hw => hw.rgO (i := 0) rfl 2 1 [pv0_0] rfl)) rfl <| lq (q_lenR Sl_62 rfl rfl ph0_0) rfl <| lq (q_move rfl) rfl <| WL.nil <| WT.block <| WT.loop <| WT.conv (S' := St w0 Φ [(b_1, .cells #[.string p0.Name, .int .i64 p0.Sal, pv0_0, pv0_1, pv0_2] 66 (0, 0))] (ob (.slice none 0 0) :: [])) (fun w1 hw => hw.addNil) ?_
 have k1 := OSl.nil RS 9 1 Φ
 refine WT.mono (l' := [(3, (.slice none 0 0)), (7, pv0_0), (8, .int .i64 (p0.Pats.length : Int)), (9, .int .i64 0)]) (S' := St w0 Φ [] [ob (.slice none 0 0)]) ⟨rfl, rfl, rfl, rfl, trivial⟩ (fun w1 hw => (hw.sel (js := [0]) rfl).selO (js := []) rfl) ?_
 refine loop_ind (σ := Hp × (List ByteArray) × Value × Int) (fun s => [(3, s.2.2.1), (7, pv0_0), (8, .int .i64 (p0.Pats.length : Int)), (9, .int .i64 s.2.2.2)]) (fun s => St w0 s.1 [] [ob s.2.2.1]) (fun m s => m_i_KindsOf_l1 N p0 m s.2.1 s.2.2.2 = some r ∧ (OSl RS 9 1 s.1 [] s.2.2.1 s.2.1) ∧ (RSl RTPat 3 s.1 pG0_0 pv0_0 p0.Pats)) (fun s hm => none_ne (show (none : Option ((List ByteArray))) = some r from hm.1)) (fun n1 ih1 s hm => ?_) N (Φ, ([] : List ByteArray), (.slice none 0 0), 0) ⟨h, k1, ph0_0⟩
 obtain ⟨Φ_1, s1, u1, s2⟩ := s
 obtain ⟨h, k2, ph0_0⟩ := hm
 replace h : m_i_KindsOf_l1 N p0 (n1 + 1) s1 s2 = some r := h
 replace k2 : OSl RS 9 1 Φ_1 [] u1 s1 := k2
 replace ph0_0 : RSl RTPat 3 Φ_1 pG0_0 pv0_0 p0.Pats := ph0_0
 show WT _ _ [(3, u1), (7, pv0_0), (8, .int .i64 (p0.Pats.length : Int)), (9, .int .i64 s2)] (St w0 Φ_1 [] [ob u1])
 unfold m_i_KindsOf_l1 at h
 refine WT.seq <| WT.region <| lq (q_lss rfl rfl) rfl <| WL.nil <| WT.seq ?_
 refine WT.cond rfl (fun c1 => ?_) (fun c1 => ?_)
 ·replace h := ite_t h c1
  refine WT.skip <| WT.seq <| WT.block <| WT.seq <| WT.region ?_
  obtain ⟨x1, hx1, h⟩ := bind_some h
  obtain ⟨cs1, F1, -, g1, hb1, hs1, r1⟩ := ph0_0.el (idx_some hx1).2.2
  obtain ⟨v1, G1, rfl, hq1, h1⟩ := r1
  obtain rfl := hq1.symm
  refine lq (q_indexAddr Sl_62 rfl rfl ph0_0 hx1) rfl <| lq (q_loadN Tn_37 rfl (fun w1 hw => (g1.of_eq 0 3 rfl rfl : rg _ _ _ [.string x1.Kind, v1, .bool x1.Not]).rangeAt hw.fro) rfl) rfl ?_
  refine ln (n_alloc (C := #[.string (⟨#[]⟩ : ByteArray), .slice none 0 0, .bool false]) Zr_37 rfl) rfl (fun b_2 => ?_)
  refine ls (s_store (i := 0) (vs := [.string x1.Kind, v1, .bool x1.Not]) (C' := [.string x1.Kind, v1, .bool x1.Not]) (O' := [(b_2, .cells #[.string x1.Kind, v1, .bool x1.Not] 37 (0, 0))]) Sz_37 rfl rfl rfl rfl rfl rfl ⟨rfl, h1.one, rfl, trivial⟩ rfl rfl) rfl <| WL.nil <| WT.region <| lq (q_move rfl) rfl <| lq (q_fieldAddr Fld_37_0 rfl) rfl <| lq (q_load1 T1_9 rfl (fun w1 hw => hw.rgO (i := 0) rfl 0 1 [.string x1.Kind] rfl)) rfl ?_
  obtain ⟨x2, hx2, h⟩ := bind_some h
  refine lc (k_call (js := [0]) (R := []) Fun_110 rfl rfl (fun w1 hw ap hl => m_i_addOnce_ok hw.fro N s1 x1.Kind k2 ap.nd hl hx2)) rfl (fun v2 Φ_2 F2 q1 => ?_)
  obtain ⟨ap1, fr1, v3, rfl, rfl, h2⟩ := q1
  replace ph0_0 := ph0_0.frame RTPat.lasts fr1 (ap1.o pa0_0)
  refine lq (q_assign rfl) rfl <| WL.nil <| WT.inBlock <| WT.region <| lq (q_add rfl rfl) rfl <| lq (q_move rfl) rfl <| WL.nil ?_
  refine WT.inLoop (WT.mono (l' := [(3, v2), (7, pv0_0), (8, .int .i64 (p0.Pats.length : Int)), (9, .int .i64 (IntKind.i64.wrap (s2 + 1)))]) (S' := St w0 Φ_2 [] [ob v2]) ⟨rfl, rfl, rfl, rfl, trivial⟩ (fun w1 hw => (hw.sel (js := [0]) rfl).selO (js := []) rfl) ?_)
  exact ih1 (Φ_2, x2, v2, IntKind.i64.wrap (s2 + 1)) ⟨h, h2, ph0_0⟩
 replace h := ite_f h c1
 refine WT.exit rfl <| WT.seq <| WT.region <| lq (q_move rfl) rfl <| lq (q_assign rfl) rfl <| WL.nil ?_
 refine WT.ret Try.func36 (resOk.one rfl) (fun w1 hw => ?_)
 subst hb0
 cases h
 refine postG_of_St (js := [0]) hw rfl ⟨u1, rfl, rfl, k2⟩
theorem m_i_VarsOf_ok {Φ : Hp} {w : World} (hΦ : In Φ w) (N : Nat) (p0 : TPat) {pv0_0 : Value} {pG0_0 : List Nat} (ph0_0 : RSl RTArg 5 Φ pG0_0 pv0_0 p0.Args) {r : (List ByteArray)} (h : m_i_VarsOf N p0 = some r) :
  Calls Try.prog 37 [.agg [.string p0.Kind, pv0_0, .bool p0.Not].toArray].toArray w (PostG Φ w [] (fun Φ' Fs v => ∃ (sr_0_0 : Value), v = sr_0_0 ∧ Fs = [ob sr_0_0] ∧ OSl RS 9 1 Φ' [] sr_0_0 r)) := by
 refine enter Try.func37 rfl Try.ntmps37 rfl (St.start0 hΦ) ?_
 have pa0_0 : Old ⟨w, [], Φ⟩ pG0_0 := Old.mk hΦ ph0_0.kn (Dj.empty _)
 revert pa0_0
 generalize hb0 : (⟨w, [], Φ⟩ : Base) = w0
 intro pa0_0
 unfold m_i_VarsOf at h
 refine WT.seq <| WT.region ?_
 refine ln (n_box (C := #[.string p0.Kind, pv0_0, .bool p0.Not]) rfl rfl) rfl (fun b_1 => ?_)
 refine lq (q_assign rfl) rfl <| WL.nil <| WT.seq <| WT.region <| lq (q_fieldAddr Fld_37_1 rfl) rfl <| lq (q_load1 T1_35 rfl (fun w1 hw => hw.rgO (i := 0) rfl 1 1 [pv0_0] rfl)) rfl <| WL.conv (S' := St w0 Φ [(b_1, .cells #[.string p0.Kind, pv0_0, .bool p0.Not] 37 (0, 0))] (ob (.slice none 0 0) :: [])) (fun w1 hw => hw.addNil) ?_
 have k1 := OSl.nil RS 9 1 Φ
 obtain ⟨x1, hx1, h⟩ := bind_some h
 refine lc (k_call (js := [0]) (R := []) Fun_109 rfl rfl (fun w1 hw ap hl => m_i_addVars_ok hw.fro N ([] : List ByteArray) p0.Args k1 ph0_0 (ap.o pa0_0) ap.nd hl hx1)) rfl (fun v1 Φ_1 F1 q1 => ?_)
 obtain ⟨ap1, fr1, v2, rfl, rfl, h1⟩ := q1
 refine lq (q_assign rfl) rfl <| WL.nil ?_
 refine WT.ret Try.func37 (resOk.one rfl) (fun w1 hw => ?_)
 subst hb0
 cases h
 refine postG_of_St (js := [0]) hw rfl ⟨v1, rfl, rfl, h1⟩
theorem m_l_hasText_ok {Φ : Hp} {w : World} (hΦ : In Φ w) (N : Nat) (p0 : (List ByteArray)) (p1 : ByteArray) {pv0 : Value} {pG0 : List Nat} (ph0 : RSl RS 1 Φ pG0 pv0 p0) {r : Bool} (h : m_l_hasText N p0 p1 = some r) :
  Calls Try.prog 38 [pv0, .string p1].toArray w (Post (.bool r) w) := by
 refine enter Try.func38 rfl Try.ntmps38 rfl (St.start0 hΦ) ?_
 generalize hb0 : (⟨w, [], Φ⟩ : Base) = w0
 unfold m_l_hasText at h
 refine WT.seq <| WT.region <| lq (q_assign rfl) rfl <| WL.nil <| WT.seq <| WT.seq <| WT.region <| lq (q_assign rfl) rfl <| WL.nil <| WT.block <| WT.loop <| WT.mono (l' := [(0, pv0), (1, .string p1), (5, .int .i64 0)]) (S' := St w0 Φ [] []) ⟨rfl, rfl, rfl, trivial⟩ (fun w1 hw => (hw.sel (js := []) rfl).selO (js := []) rfl) ?_
 refine loop_ind (σ := Int) (fun s => [(0, pv0), (1, .string p1), (5, .int .i64 s)]) (fun s => St w0 Φ [] []) (fun m s => m_l_hasText_l1 N p0 p1 m s = some r) (fun s hm => none_ne (show (none : Option (Bool)) = some r from hm)) (fun n1 ih1 s hm => ?_) N (0) h
 revert hm; revert s; intro s1 hm
 have h : m_l_hasText_l1 N p0 p1 (n1 + 1) s1 = some r := hm
 show WT _ _ [(0, pv0), (1, .string p1), (5, .int .i64 s1)] (St w0 Φ [] [])
 unfold m_l_hasText_l1 at h
 refine WT.seq <| WT.seq <| WT.region <| lq (q_move rfl) rfl <| lq (q_move rfl) rfl <| lq (q_lenR Sl_68 rfl rfl ph0) rfl <| lq (q_lss rfl rfl) rfl <| WL.nil ?_
 refine WT.cond rfl (fun c1 => ?_) (fun c1 => ?_)
 ·replace h := ite_t h c1
  refine WT.skip <| WT.seq <| WT.block <| WT.seq <| WT.region <| lq (q_move rfl) rfl <| lq (q_move rfl) rfl ?_
  obtain ⟨x1, hx1, h⟩ := bind_some h
  obtain ⟨cs1, F1, -, g1, hb1, hs1, r1⟩ := ph0.el (idx_some hx1).2.2
  obtain ⟨rfl, -⟩ := r1
  refine lq (q_indexAddr Sl_68 rfl rfl ph0 hx1) rfl <| lq (q_load1 T1_9 rfl (fun w1 hw => (g1.of_eq 0 1 rfl rfl : rg _ _ _ [.string x1]).rangeAt hw.fro)) rfl <| lq (q_move rfl) rfl <| lq (q_seq rfl rfl) rfl <| WL.nil ?_
  refine WT.cond rfl (fun c2 => ?_) (fun c2 => ?_)
  ·replace h := ite_t h c2
   refine WT.seq <| WT.region <| lq (q_assign rfl) rfl <| WL.nil ?_
   refine WT.ret Try.func38 (resOk.one rfl) (fun w1 hw => ?_)
   subst hb0
   cases h
   exact post_of_St hw
  replace h := ite_f h c2
  refine WT.skip <| WT.inBlock <| WT.region <| lq (q_move rfl) rfl <| lq (q_add rfl rfl) rfl <| lq (q_assign rfl) rfl <| WL.nil ?_
  refine WT.inLoop (WT.mono (l' := [(0, pv0), (1, .string p1), (5, .int .i64 (IntKind.i64.wrap (s1 + 1)))]) (S' := St w0 Φ [] []) ⟨rfl, rfl, rfl, trivial⟩ (fun w1 hw => (hw.sel (js := []) rfl).selO (js := []) rfl) ?_)
  exact ih1 (IntKind.i64.wrap (s1 + 1)) h
 replace h := ite_f h c1
 refine WT.exit rfl <| WT.seq <| WT.region <| lq (q_assign rfl) rfl <| WL.nil ?_
 refine WT.ret Try.func38 (resOk.one rfl) (fun w1 hw => ?_)
 subst hb0
 cases h
 exact post_of_St hw
theorem m_l_sameTexts_ok {Φ : Hp} {w : World} (hΦ : In Φ w) (N : Nat) (p0 : (List ByteArray)) (p1 : (List ByteArray)) {pv0 : Value} {pG0 : List Nat} {pv1 : Value} {pG1 : List Nat} (ph0 : RSl RS 1 Φ pG0 pv0 p0) (ph1 : RSl RS 1 Φ pG1 pv1 p1) {r : Bool} (h : m_l_sameTexts N p0 p1 = some r) :
  Calls Try.prog 39 [pv0, pv1].toArray w (Post (.bool r) w) := by
 refine enter Try.func39 rfl Try.ntmps39 rfl (St.start0 hΦ) ?_
 generalize hb0 : (⟨w, [], Φ⟩ : Base) = w0
 unfold m_l_sameTexts at h
 refine WT.seq <| WT.region <| lq (q_assign rfl) rfl <| WL.nil <| WT.seq <| WT.seq <| WT.region <| lq (q_move rfl) rfl <| lq (q_lenR Sl_68 rfl rfl ph0) rfl <| lq (q_move rfl) rfl <| lq (q_lenR Sl_68 rfl rfl ph1) rfl <| lq (q_neq rfl rfl) rfl <| WL.nil ?_
 refine WT.cond rfl (fun c1 => ?_) (fun c1 => ?_)
 ·replace h := ite_t h c1
  refine WT.seq <| WT.region <| lq (q_assign rfl) rfl <| WL.nil ?_
  refine WT.ret Try.func39 (resOk.one rfl) (fun w1 hw => ?_)
  subst hb0
  cases h
  exact post_of_St hw
 replace h := ite_f h c1
 refine WT.skip <| WT.seq <| WT.seq <| WT.region <| lq (q_assign rfl) rfl <| WL.nil <| WT.block <| WT.loop <| WT.mono (l' := [(0, pv0), (1, pv1), (5, .int .i64 0)]) (S' := St w0 Φ [] []) ⟨rfl, rfl, rfl, trivial⟩ (fun w1 hw => (hw.sel (js := []) rfl).selO (js := []) rfl) ?_
 refine loop_ind (σ := Int) (fun s => [(0, pv0), (1, pv1), (5, .int .i64 s)]) (fun s => St w0 Φ [] []) (fun m s => m_l_sameTexts_l1 N p0 p1 m s = some r) (fun s hm => none_ne (show (none : Option (Bool)) = some r from hm)) (fun n1 ih1 s hm => ?_) N (0) h
 revert hm; revert s; intro s1 hm
 have h : m_l_sameTexts_l1 N p0 p1 (n1 + 1) s1 = some r := hm
 show WT _ _ [(0, pv0), (1, pv1), (5, .int .i64 s1)] (St w0 Φ [] [])
 unfold m_l_sameTexts_l1 at h
 refine WT.seq <| WT.seq <| WT.region <| lq (q_move rfl) rfl <| lq (q_move rfl) rfl <| lq (q_lenR Sl_68 rfl rfl ph0) rfl <| lq (q_lss rfl rfl) rfl <| WL.nil ?_
 refine WT.cond rfl (fun c2 => ?_) (fun c2 => ?_)
 ·replace h := ite_t h c2
  refine WT.skip <| WT.seq <| WT.block <| WT.seq <| WT.draw mixed (by kernel_rfl) (fun _ h => h.drew) <| qq (q_move rfl) rfl <| qq (q_move rfl) rfl ?_
  obtain ⟨x1, hx1, h⟩ := bind_some h
  obtain ⟨cs1, F1, -, g1, hb1, hs1, r1⟩ := ph0.el (idx_some hx1).2.2
  obtain ⟨rfl, -⟩ := r1
  refine qq (q_indexAddr Sl_68 rfl rfl ph0 hx1) rfl <| qq (q_load1 T1_9 rfl (fun w1 hw => (g1.of_eq 0 1 rfl rfl : rg _ _ _ [.string x1]).rangeAt hw.fro)) rfl <| qq (q_move rfl) rfl <| qq (q_move rfl) rfl ?_
  obtain ⟨x2, hx2, h⟩ := bind_some h
  obtain ⟨cs2, F2, -, g2, hb2, hs2, r2⟩ := ph1.el (idx_some hx2).2.2
  obtain ⟨rfl, -⟩ := r2
  refine qq (q_indexAddr Sl_68 rfl rfl ph1 hx2) rfl <| qq (q_load1 T1_9 rfl (fun w1 hw => (g2.of_eq 0 1 rfl rfl : rg _ _ _ [.string x2]).rangeAt hw.fro)) rfl <| qq (q_sne rfl rfl) rfl <| WQ.nil ?_
  refine WT.cond rfl (fun c3 => ?_) (fun c3 => ?_)
  ·replace h := ite_t h c3
   refine WT.seq <| WT.region <| lq (q_assign rfl) rfl <| WL.nil ?_
   refine WT.ret Try.func39 (resOk.one rfl) (fun w1 hw => ?_)
   subst hb0
   cases h
   exact post_of_St hw
  replace h := ite_f h c3
  refine WT.skip <| WT.inBlock <| WT.region <| lq (q_move rfl) rfl <| lq (q_add rfl rfl) rfl <| lq (q_assign rfl) rfl <| WL.nil ?_
  refine WT.inLoop (WT.mono (l' := [(0, pv0), (1, pv1), (5, .int .i64 (IntKind.i64.wrap (s1 + 1)))]) (S' := St w0 Φ [] []) ⟨rfl, rfl, rfl, trivial⟩ (fun w1 hw => (hw.sel (js := []) rfl).selO (js := []) rfl) ?_)
  exact ih1 (IntKind.i64.wrap (s1 + 1)) h
 replace h := ite_f h c2
 refine WT.exit rfl <| WT.seq <| WT.region <| lq (q_assign rfl) rfl <| WL.nil ?_
 refine WT.ret Try.func39 (resOk.one rfl) (fun w1 hw => ?_)
 subst hb0
 cases h
 exact post_of_St hw
theorem m_s_KindsOf_ok {Φ : Hp} {w : World} (hΦ : In Φ w) (N : Nat) (p0 : TRule) {pv0_0 : Value} {pG0_0 : List Nat} {pv0_1 : Value} {pG0_1 : List Nat} {pv0_2 : Value} {pG0_2 : List Nat} (ph0_0 : RSl RTPat 3 Φ pG0_0 pv0_0 p0.Pats) (ph0_1 : RSl RTCond 11 Φ pG0_1 pv0_1 p0.Conds) (ph0_2 : RSl RTAct 5 Φ pG0_2 pv0_2 p0.Acts) {r : (List ByteArray)} (h : m_s_KindsOf N p0 = some r) :
  Calls Try.prog 41 [.agg [.string p0.Name, .int .i64 p0.Sal, pv0_0, pv0_1, pv0_2].toArray].toArray w (PostG Φ w [] (fun Φ' Fs v => ∃ (sr_0_0 : Value), v = sr_0_0 ∧ Fs = [ob sr_0_0] ∧ OSl RS 9 1 Φ' [] sr_0_0 r)) := by
 refine enter Try.func41 rfl Try.ntmps41 rfl (St.start0 hΦ) ?_
 have pa0_0 : Old ⟨w, [], Φ⟩ pG0_0 := Old.mk hΦ ph0_0.kn (Dj.empty _)
 have pa0_1 : Old ⟨w, [], Φ⟩ pG0_1 := Old.mk hΦ ph0_1.kn (Dj.empty _)
 have pa0_2 : Old ⟨w, [], Φ⟩ pG0_2 := Old.mk hΦ ph0_2.kn (Dj.empty _)
 revert pa0_0 pa0_1 pa0_2
 generalize hb0 : (⟨w, [], Φ⟩ : Base) = w0
 intro pa0_0 pa0_1 pa0_2
 unfold m_s_KindsOf at h
 refine WT.seq <| WT.region ?_
 refine ln (n_box (C := #[.string p0.Name, .int .i64 p0.Sal, pv0_0, pv0_1, pv0_2]) rfl rfl) rfl (fun b_1 => ?_)
 refine lq (q_assign rfl) rfl <| WL.nil <| WT.seq <| WT.region ?_
 have rc1 : RC RS 1 Φ ([] : List (List Nat)) [] ([] : List ByteArray) := RC.nil _ _ _
 refine le' (e_lit (vs := []) (C := #[]) RS.lasts Sl_68 Zr_9 rfl rfl rfl rfl (fill_made MC_9_0 (fill_nil)) rfl rc1 rfl (by simpa using Kw.nil)) rfl (fun v1 Φ_1 D1 q1 => ?_)
 obtain ⟨fr1, h1⟩ := q1
 replace h1 : OSl RS 9 1 Φ_1 [] v1 ([] : List ByteArray) := by simpa using h1
 replace ph0_0 := ph0_0.frame RTPat.lasts fr1 (Dj.empty _)
 replace ph0_1 := ph0_1.frame RTCond.lasts fr1 (Dj.empty _)
 replace ph0_2 := ph0_2.frame RTAct.lasts fr1 (Dj.empty _)
 refine lq (q_assign rfl) rfl <| WL.nil <| WT.seq <| WT.seq <| WT.region <| lq (q_assign rfl) rfl <| WL.nil <| WT.block <| WT.loop <| WT.mono (l' := [(1, .pointer (some ⟨b_1, 0, none⟩)), (3, v1), (4, .int .i64 0)]) (S' := St w0 Φ_1 [(b_1, .cells #[.string p0.Name, .int .i64 p0.Sal, pv0_0, pv0_1, pv0_2] 66 (0, 0))] [ob v1]) ⟨rfl, rfl, rfl, trivial⟩ (fun w1 hw => (hw.sel (js := [0]) rfl).selO (js := [0]) rfl) ?_
 refine loop_ind (σ := Hp × (List ByteArray) × Value × Int) (fun s => [(1, .pointer (some ⟨b_1, 0, none⟩)), (3, s.2.2.1), (4, .int .i64 s.2.2.2)]) (fun s => St w0 s.1 [(b_1, .cells #[.string p0.Name, .int .i64 p0.Sal, pv0_0, pv0_1, pv0_2] 66 (0, 0))] [ob s.2.2.1]) (fun m s => m_s_KindsOf_l1 N p0 m s.2.1 s.2.2.2 = some r ∧ (OSl RS 9 1 s.1 [] s.2.2.1 s.2.1) ∧ (RSl RTPat 3 s.1 pG0_0 pv0_0 p0.Pats) ∧ (RSl RTCond 11 s.1 pG0_1 pv0_1 p0.Conds) ∧ (RSl RTAct 5 s.1 pG0_2 pv0_2 p0.Acts)) (fun s hm => none_ne (show (none : Option ((List ByteArray))) = some r from hm.1)) (fun n1 ih1 s hm => ?_) N (Φ_1, ([] : List ByteArray), v1, 0) ⟨h, h1, ph0_0, ph0_1, ph0_2⟩
 obtain ⟨Φ_2, s1, u1, s2⟩ := s
 obtain ⟨h, k1, ph0_0, ph0_1, ph0_2⟩ := hm
 replace h : m_s_KindsOf_l1 N p0 (n1 + 1) s1 s2 = some r := h
 replace k1 : OSl RS 9 1 Φ_2 [] u1 s1 := k1
 replace ph0_0 : RSl RTPat 3 Φ_2 pG0_0 pv0_0 p0.Pats := ph0_0
 replace ph0_1 : RSl RTCond 11 Φ_2 pG0_1 pv0_1 p0.Conds := ph0_1
 replace ph0_2 : RSl RTAct 5 Φ_2 pG0_2 pv0_2 p0.Acts := ph0_2
 show WT _ _ [(1, .pointer (some ⟨b_1, 0, none⟩)), (3, u1), (4, .int .i64 s2)] (St w0 Φ_2 [(b_1, .cells #[.string p0.Name, .int .i64 p0.Sal, pv0_0, pv0_1, pv0_2] 66 (0, 0))] [ob u1])
 unfold m_s_KindsOf_l1 at h
 refine WT.seq <| WT.seq <| WT.region <| lq (q_move rfl) rfl <| lq (q_fieldAddr Fld_66_2 rfl) rfl <| lq (q_load1 T1_62 rfl (fun w1 hw => hw.rgO (i := 0) rfl 2 1 [pv0_0] rfl)) rfl <| lq (q_lenR Sl_62 rfl rfl ph0_0) rfl <| lq (q_lss rfl rfl) rfl <| WL.nil ?_
 refine WT.cond rfl (fun c1 => ?_) (fun c1 => ?_)
 ·replace h := ite_t h c1
  refine WT.skip <| WT.seq <| WT.block <| WT.seq <| WT.region <| lq (q_move rfl) rfl <| lq (q_fieldAddr Fld_66_2 rfl) rfl <| lq (q_load1 T1_62 rfl (fun w1 hw => hw.rgO (i := 0) rfl 2 1 [pv0_0] rfl)) rfl <| lq (q_move rfl) rfl ?_
  obtain ⟨x1, hx1, h⟩ := bind_some h
  obtain ⟨cs1, F1, -, g1, hb1, hs1, r1⟩ := ph0_0.el (idx_some hx1).2.2
  obtain ⟨v2, G1, rfl, hq1, h2⟩ := r1
  obtain rfl := hq1.symm
  refine lq (q_indexAddr Sl_62 rfl rfl ph0_0 hx1) rfl <| lq (q_fieldAddr Fld_37_0 rfl) rfl <| lq (q_load1 T1_9 rfl (fun w1 hw => (g1.of_eq 0 1 rfl rfl : rg _ _ _ [.string x1.Kind]).rangeAt hw.fro)) rfl ?_
  obtain ⟨x2, hx2, h⟩ := bind_some h
  refine lp (p_call Fun_112 rfl (fun w1 hw => m_s_l6Has_ok hw.fro N s1 x1.Kind k1.rsl hx2)) rfl <| lq (q_not rfl) rfl <| WL.nil ?_
  refine WT.cond rfl (fun c2 => ?_) (fun c2 => ?_)
  ·replace h := ite_t h c2
   refine WT.region <| lq (q_move rfl) rfl <| lq (q_fieldAddr Fld_66_2 rfl) rfl <| lq (q_load1 T1_62 rfl (fun w1 hw => hw.rgO (i := 0) rfl 2 1 [pv0_0] rfl)) rfl <| lq (q_move rfl) rfl ?_
   obtain ⟨x3, hx3, h⟩ := bind_some h
   obtain ⟨cs2, F2, -, g2, hb2, hs2, r2⟩ := ph0_0.el (idx_some hx3).2.2
   obtain ⟨v3, G2, rfl, hq2, h3⟩ := r2
   obtain rfl := hq2.symm
   refine lq (q_indexAddr Sl_62 rfl rfl ph0_0 hx3) rfl <| lq (q_fieldAddr Fld_37_0 rfl) rfl <| lq (q_load1 T1_9 rfl (fun w1 hw => (g2.of_eq 0 1 rfl rfl : rg _ _ _ [.string x3.Kind]).rangeAt hw.fro)) rfl ?_
   have rc2 : RC RS 1 Φ_2 ([[]] : List (List Nat)) [.string x3.Kind] ([x3.Kind] : List ByteArray) := RC.cons (c := [.string x3.Kind]) (cells := []) ⟨rfl, rfl⟩ rfl (RC.nil _ _ _)
   refine le' (e_lit (vs := [(0, .string x3.Kind)]) (C := #[.string x3.Kind]) RS.lasts Sl_68 Zr_9 rfl rfl rfl rfl (fill_made MC_9_1 (fill_cons (cells := [.string ⟨#[]⟩]) (c := [.string x3.Kind]) (C' := [.string x3.Kind]) rfl rfl rfl rfl rfl (fill_nil))) rfl rc2 rfl (by simpa using Kw.nil)) rfl (fun v4 Φ_3 D2 q2 => ?_)
   obtain ⟨fr2, h4⟩ := q2
   replace h4 : OSl RS 9 1 Φ_3 [] v4 ([x3.Kind] : List ByteArray) := by simpa using h4
   replace ph0_0 := ph0_0.frame RTPat.lasts fr2 (Dj.empty _)
   replace ph0_1 := ph0_1.frame RTCond.lasts fr2 (Dj.empty _)
   replace ph0_2 := ph0_2.frame RTAct.lasts fr2 (Dj.empty _)
   replace k1 := k1.frame RS.lasts fr2 (Dj.empty _) (Dj.empty _)
   obtain ⟨x4, hx4, h⟩ := bind_some h
   refine le' (e_appF RS.lasts RS.one RS.flat Sl_68 Ei_9 rfl rfl rfl rfl rfl (js := [1]) (Rr := [ob v4]) rfl k1 h4.rsl hx4) rfl (fun v5 Φ_4 D3 q3 => ?_)
   obtain ⟨⟨ap1, fr3⟩, h5⟩ := q3
   replace ph0_0 := ph0_0.frame RTPat.lasts fr3 (ap1.o pa0_0)
   replace ph0_1 := ph0_1.frame RTCond.lasts fr3 (ap1.o pa0_1)
   replace ph0_2 := ph0_2.frame RTAct.lasts fr3 (ap1.o pa0_2)
   refine lq (q_assign rfl) rfl <| WL.nil <| WT.inBlock <| WT.region <| lq (q_move rfl) rfl <| lq (q_add rfl rfl) rfl <| lq (q_assign rfl) rfl <| WL.nil ?_
   refine WT.inLoop (WT.mono (l' := [(1, .pointer (some ⟨b_1, 0, none⟩)), (3, v5), (4, .int .i64 (IntKind.i64.wrap (s2 + 1)))]) (S' := St w0 Φ_4 [(b_1, .cells #[.string p0.Name, .int .i64 p0.Sal, pv0_0, pv0_1, pv0_2] 66 (0, 0))] [ob v5]) ⟨rfl, rfl, rfl, trivial⟩ (fun w1 hw => (hw.sel (js := [0]) rfl).selO (js := [0]) rfl) ?_)
   exact ih1 (Φ_4, x4, v5, IntKind.i64.wrap (s2 + 1)) ⟨h, h5, ph0_0, ph0_1, ph0_2⟩
  replace h := ite_f h c2
  refine WT.skip <| WT.inBlock <| WT.region <| lq (q_move rfl) rfl <| lq (q_add rfl rfl) rfl <| lq (q_assign rfl) rfl <| WL.nil ?_
  refine WT.inLoop (WT.mono (l' := [(1, .pointer (some ⟨b_1, 0, none⟩)), (3, u1), (4, .int .i64 (IntKind.i64.wrap (s2 + 1)))]) (S' := St w0 Φ_2 [(b_1, .cells #[.string p0.Name, .int .i64 p0.Sal, pv0_0, pv0_1, pv0_2] 66 (0, 0))] [ob u1]) ⟨rfl, rfl, rfl, trivial⟩ (fun w1 hw => (hw.sel (js := [0]) rfl).selO (js := [0]) rfl) ?_)
  exact ih1 (Φ_2, s1, u1, IntKind.i64.wrap (s2 + 1)) ⟨h, k1, ph0_0, ph0_1, ph0_2⟩
 replace h := ite_f h c1
 refine WT.exit rfl <| WT.seq <| WT.region <| lq (q_move rfl) rfl <| lq (q_assign rfl) rfl <| WL.nil ?_
 refine WT.ret Try.func41 (resOk.one rfl) (fun w1 hw => ?_)
 subst hb0
 cases h
 refine postG_of_St (js := [0]) hw rfl ⟨u1, rfl, rfl, k1⟩
theorem m_l_FnRuleVars_ok {Φ : Hp} {w : World} (hΦ : In Φ w) (N : Nat) (p0 : (List Int)) {pv0 : Value} {pG0 : List Nat} (ph0 : RSl (RI .u8) 1 Φ pG0 pv0 p0) {r : Bool} (h : m_l_FnRuleVars N p0 = some r) :
  Calls Try.prog 6 [pv0].toArray w (Post (.bool r) w) := by
 refine enter Try.func6 rfl Try.ntmps6 rfl (St.start0 hΦ) ?_
 generalize hb0 : (⟨w, [], Φ⟩ : Base) = w0
 unfold m_l_FnRuleVars at h
 refine WT.seq <| WT.region <| lq (q_assign rfl) rfl <| WL.nil <| WT.seq <| WT.seq <| WT.region <| lq (q_move rfl) rfl ?_
 obtain ⟨x1, hx1, h⟩ := bind_some h
 refine lp (p_call Fun_12 rfl (fun w1 hw => m_l_big_ok hw.fro N p0 ph0 hx1)) rfl <| WL.nil ?_
 refine WT.cond rfl (fun c1 => ?_) (fun c1 => ?_)
 ·replace h := ite_t h c1
  refine WT.seq <| WT.region <| lq (q_assign rfl) rfl <| WL.nil ?_
  refine WT.ret Try.func6 (resOk.one rfl) (fun w1 hw => ?_)
  subst hb0
  cases h
  exact post_of_St hw
 replace h := ite_f h c1
 refine WT.skip <| WT.seq <| WT.region <| lq (q_move rfl) rfl ?_
 obtain ⟨x2, hx2, h⟩ := bind_some h
 refine lc (k_call (js := []) (R := []) Fun_34 rfl rfl (fun w1 hw ap hl => m_s_DrawPosVars_ok hw.fro N p0 ph0  hx2)) rfl (fun v1 Φ_1 F1 q1 => ?_)
 obtain ⟨ap1, fr1, v2, D1, v3, G1, v4, G2, X1, rfl, rfl, h1, i1, h2, i2, h3, i3⟩ := q1
 refine ln (n_alloc (C := #[.string (⟨#[]⟩ : ByteArray), .int .i64 0, .slice none 0 0, .slice none 0 0, .slice none 0 0]) Zr_66 rfl) rfl (fun b_1 => ?_)
 refine ls (s_store (i := 0) (vs := [.string x2.Name, .int .i64 x2.Sal, v2, v3, v4]) (C' := [.string x2.Name, .int .i64 x2.Sal, v2, v3, v4]) (O' := [(b_1, .cells #[.string x2.Name, .int .i64 x2.Sal, v2, v3, v4] 66 (0, 0))]) Sz_66 rfl rfl rfl rfl rfl rfl ⟨rfl, rfl, h1.one, h2.one, h3.one, trivial⟩ rfl rfl) rfl <| WL.nil <| WT.seq <| WT.region <| lq (q_loadN Tn_66 rfl (fun w1 hw => hw.rgO (i := 0) rfl 0 5 [.string x2.Name, .int .i64 x2.Sal, v2, v3, v4] rfl) rfl) rfl ?_
 obtain ⟨x4, hx3, h⟩ := bind_some h
 refine lc (k_call (js := []) (R := [ob v2, X1]) Fun_35 rfl rfl (fun w1 hw ap hl => m_i_PosVars_ok hw.fro N x2 h1.rsl h2 h3  hx3)) rfl (fun v5 Φ_2 F2 q2 => ?_)
 obtain ⟨ap2, fr2, v6, rfl, rfl, h4⟩ := q2
 replace h2 := h2.frame RTCond.lasts fr2 (Dj.sub (ap2.r (i := 1) rfl) i2)
 replace h3 := h3.frame RTAct.lasts fr2 (Dj.sub (ap2.r (i := 1) rfl) i3)
 replace h1 := h1.frame RTPat.lasts fr2 (ap2.r (i := 0) rfl) (Dj.sub (ap2.r (i := 1) rfl) i1)
 refine lq (q_assign rfl) rfl <| WL.nil <| WT.seq <| WT.region <| lq (q_loadN Tn_66 rfl (fun w1 hw => hw.rgO (i := 0) rfl 0 5 [.string x2.Name, .int .i64 x2.Sal, v2, v3, v4] rfl) rfl) rfl ?_
 obtain ⟨x5, hx4, h⟩ := bind_some h
 refine lc (k_call (js := []) (R := [ob v5, ob v2, X1]) Fun_36 rfl rfl (fun w1 hw ap hl => m_i_KindsOf_ok hw.fro N x2 h1.rsl h2 h3  hx4)) rfl (fun v7 Φ_3 F3 q3 => ?_)
 obtain ⟨ap3, fr3, v8, rfl, rfl, h5⟩ := q3
 replace h2 := h2.frame RTCond.lasts fr3 (Dj.sub (ap3.r (i := 2) rfl) i2)
 replace h3 := h3.frame RTAct.lasts fr3 (Dj.sub (ap3.r (i := 2) rfl) i3)
 replace h1 := h1.frame RTPat.lasts fr3 (ap3.r (i := 1) rfl) (Dj.sub (ap3.r (i := 2) rfl) i1)
 replace h4 := h4.frame RS.lasts fr3 (ap3.r (i := 0) rfl) (Dj.nil _)
 refine lq (q_assign rfl) rfl <| WL.nil <| WT.seq <| WT.seq <| WT.region <| lq (q_assign rfl) rfl <| WL.nil <| WT.block <| WT.loop <| WT.mono (l' := [(3, .pointer (some ⟨b_1, 0, none⟩)), (4, v5), (5, v7), (6, .int .i64 0)]) (S' := St w0 Φ_3 [(b_1, .cells #[.string x2.Name, .int .i64 x2.Sal, v2, v3, v4] 66 (0, 0))] [ob v7, ob v5, ob v2, X1]) ⟨rfl, rfl, rfl, rfl, trivial⟩ (fun w1 hw => (hw.sel (js := [0, 0, 0, 0]) rfl).selO (js := [0]) rfl) ?_
 refine loop_ind (σ := Hp × Int) (fun s => [(3, .pointer (some ⟨b_1, 0, none⟩)), (4, v5), (5, v7), (6, .int .i64 s.2)]) (fun s => St w0 s.1 [(b_1, .cells #[.string x2.Name, .int .i64 x2.Sal, v2, v3, v4] 66 (0, 0))] [ob v7, ob v5, ob v2, X1]) (fun m s => m_l_FnRuleVars_l1 N x2 x4 x5 m s.2 = some r ∧ (OSl RTPat 37 3 s.1 D1 v2 x2.Pats) ∧ (OSl RS 9 1 s.1 [] v5 x4) ∧ (OSl RS 9 1 s.1 [] v7 x5) ∧ (RSl RTCond 11 s.1 G1 v3 x2.Conds) ∧ (RSl RTAct 5 s.1 G2 v4 x2.Acts)) (fun s hm => none_ne (show (none : Option (Bool)) = some r from hm.1)) (fun n1 ih1 s hm => ?_) N (Φ_3, 0) ⟨h, h1, h4, h5, h2, h3⟩
 obtain ⟨Φ_4, s1⟩ := s
 obtain ⟨h, h1, h4, h5, h2, h3⟩ := hm
 replace h : m_l_FnRuleVars_l1 N x2 x4 x5 (n1 + 1) s1 = some r := h
 replace h1 : OSl RTPat 37 3 Φ_4 D1 v2 x2.Pats := h1
 replace h4 : OSl RS 9 1 Φ_4 [] v5 x4 := h4
 replace h5 : OSl RS 9 1 Φ_4 [] v7 x5 := h5
 replace h2 : RSl RTCond 11 Φ_4 G1 v3 x2.Conds := h2
 replace h3 : RSl RTAct 5 Φ_4 G2 v4 x2.Acts := h3
 show WT _ _ [(3, .pointer (some ⟨b_1, 0, none⟩)), (4, v5), (5, v7), (6, .int .i64 s1)] (St w0 Φ_4 [(b_1, .cells #[.string x2.Name, .int .i64 x2.Sal, v2, v3, v4] 66 (0, 0))] [ob v7, ob v5, ob v2, X1])
 unfold m_l_FnRuleVars_l1 at h
 refine WT.seq <| WT.seq <| WT.region <| lq (q_move rfl) rfl <| lq (q_fieldAddr Fld_66_2 rfl) rfl <| lq (q_load1 T1_62 rfl (fun w1 hw => hw.rgO (i := 0) rfl 2 1 [v2] rfl)) rfl <| lq (q_lenR Sl_62 rfl rfl h1.rsl) rfl <| lq (q_lss rfl rfl) rfl <| WL.nil ?_
 refine WT.cond rfl (fun c2 => ?_) (fun c2 => ?_)
 ·replace h := ite_t h c2
  refine WT.skip <| WT.seq <| WT.block <| WT.seq <| WT.region <| lq (q_fieldAddr Fld_66_2 rfl) rfl <| lq (q_load1 T1_62 rfl (fun w1 hw => hw.rgO (i := 0) rfl 2 1 [v2] rfl)) rfl <| lq (q_move rfl) rfl ?_
  obtain ⟨x6, hx5, h⟩ := bind_some h
  obtain ⟨cs1, F4, -, g1, hb1, hs1, r1⟩ := h1.elS (idx_some hx5).2.2
  obtain ⟨v9, G3, rfl, hq1, h6⟩ := r1
  obtain rfl := hq1.symm
  refine lq (q_indexAddr Sl_62 rfl rfl h1.rsl hx5) rfl <| lq (q_loadN Tn_37 rfl (fun w1 hw => (g1.of_eq 0 3 rfl rfl : rg _ _ _ [.string x6.Kind, v9, .bool x6.Not]).rangeAt hw.fro) rfl) rfl ?_
  obtain ⟨x7, hx6, h⟩ := bind_some h
  refine lc (k_call (js := []) (R := [ob v7, ob v5, ob v2, X1]) Fun_37 rfl rfl (fun w1 hw ap hl => m_i_VarsOf_ok hw.fro N x6 h6  hx6)) rfl (fun v10 Φ_5 F5 q4 => ?_)
  obtain ⟨ap4, fr4, v11, rfl, rfl, h7⟩ := q4
  replace h2 := h2.frame RTCond.lasts fr4 (Dj.sub (ap4.r (i := 3) rfl) i2)
  replace h3 := h3.frame RTAct.lasts fr4 (Dj.sub (ap4.r (i := 3) rfl) i3)
  replace h1 := h1.frame RTPat.lasts fr4 (ap4.r (i := 2) rfl) (Dj.sub (ap4.r (i := 3) rfl) i1)
  replace h4 := h4.frame RS.lasts fr4 (ap4.r (i := 1) rfl) (Dj.nil _)
  replace h5 := h5.frame RS.lasts fr4 (ap4.r (i := 0) rfl) (Dj.nil _)
  refine lq (q_assign rfl) rfl <| WL.nil <| WT.seq <| WT.seq <| WT.region <| lq (q_assign rfl) rfl <| WL.nil <| WT.block <| WT.loop <| WT.mono (l' := [(3, .pointer (some ⟨b_1, 0, none⟩)), (4, v5), (5, v7), (6, .int .i64 s1), (7, v10), (8, .int .i64 0)]) (S' := St w0 Φ_5 [(b_1, .cells #[.string x2.Name, .int .i64 x2.Sal, v2, v3, v4] 66 (0, 0))] [ob v10, ob v7, ob v5, ob v2, X1]) ⟨rfl, rfl, rfl, rfl, rfl, rfl, trivial⟩ (fun w1 hw => (hw.sel (js := [0, 0, 0, 0, 0]) rfl).selO (js := [0]) rfl) ?_
  refine loop_ind (σ := Int) (fun s => [(3, .pointer (some ⟨b_1, 0, none⟩)), (4, v5), (5, v7), (6, .int .i64 s1), (7, v10), (8, .int .i64 s)]) (fun s => St w0 Φ_5 [(b_1, .cells #[.string x2.Name, .int .i64 x2.Sal, v2, v3, v4] 66 (0, 0))] [ob v10, ob v7, ob v5, ob v2, X1]) (fun m s => m_l_FnRuleVars_l2 N x2 x4 x5 s1 (m_l_FnRuleVars_l1 N x2 x4 x5 n1) x7 m s = some r) (fun s hm => none_ne (show (none : Option (Bool)) = some r from hm)) (fun n2 ih2 s hm => ?_) N (0) h
  revert hm; revert s; intro s2 hm
  have h : m_l_FnRuleVars_l2 N x2 x4 x5 s1 (m_l_FnRuleVars_l1 N x2 x4 x5 n1) x7 (n2 + 1) s2 = some r := hm
  show WT _ _ [(3, .pointer (some ⟨b_1, 0, none⟩)), (4, v5), (5, v7), (6, .int .i64 s1), (7, v10), (8, .int .i64 s2)] (St w0 Φ_5 [(b_1, .cells #[.string x2.Name, .int .i64 x2.Sal, v2, v3, v4] 66 (0, 0))] [ob v10, ob v7, ob v5, ob v2, X1])
  unfold m_l_FnRuleVars_l2 at h
  refine WT.seq <| WT.seq <| WT.region <| lq (q_move rfl) rfl <| lq (q_move rfl) rfl <| lq (q_lenR Sl_68 rfl rfl h7.rsl) rfl <| lq (q_lss rfl rfl) rfl <| lq (q_move rfl) rfl ?_
  obtain ⟨b1, hb_1, h⟩ := bind_some h
  refine WL.cutN 8 [(43, .bool b1), (3, .pointer (some ⟨b_1, 0, none⟩)), (4, v5), (5, v7), (6, .int .i64 s1), (7, v10), (8, .int .i64 s2)] ?_ (fun K => ?_)
  rotate_left
  ·refine WL.split (d := 35) rfl (fun c3 => ?_) (fun c3 => ?_)
   ·replace hb_1 := ite_t hb_1 c3
    refine WL.yes rfl rfl <| lq (q_fieldAddr Fld_66_2 rfl) rfl <| WL.yes rfl rfl <| lq (q_load1 T1_62 rfl (fun w1 hw => hw.rgO (i := 0) rfl 2 1 [v2] rfl)) rfl <| WL.yes rfl rfl <| lq (q_move rfl) rfl <| WL.yes rfl rfl ?_
    obtain ⟨x8, hx7, hb_1⟩ := bind_some hb_1
    obtain ⟨cs2, F6, -, g2, hb2, hs2, r2⟩ := h1.elS (idx_some hx7).2.2
    obtain ⟨v12, G4, rfl, hq2, h8⟩ := r2
    obtain rfl := hq2.symm
    refine lq (q_indexAddr Sl_62 rfl rfl h1.rsl hx7) rfl <| WL.yes rfl rfl <| lq (q_fieldAddr Fld_37_2 rfl) rfl <| WL.yes rfl rfl <| lq (q_load1 T1_4 rfl (fun w1 hw => (g2.of_eq 2 1 rfl rfl : rg _ _ _ [.bool x8.Not]).rangeAt hw.fro)) rfl <| WL.yes rfl rfl <| lq (q_not rfl) rfl <| WL.q (q_pick1 rfl rfl) rfl rfl rfl ?_
    cases hb_1
    exact WL.keep (by exact ⟨rfl, rfl, rfl, rfl, rfl, rfl, rfl, trivial⟩) K
   ·replace hb_1 := ite_f hb_1 c3
    refine WL.no rfl rfl rfl rfl <| WL.no rfl rfl rfl rfl <| WL.no rfl rfl rfl rfl <| WL.no rfl rfl rfl rfl <| WL.no rfl rfl rfl rfl <| WL.no rfl rfl rfl rfl <| WL.no rfl rfl rfl rfl <| WL.q (q_pick0 rfl rfl) rfl rfl rfl ?_
    cases hb_1
    exact WL.keep (by exact ⟨rfl, rfl, rfl, rfl, rfl, rfl, rfl, trivial⟩) K
  refine WL.nil ?_
  refine WT.cond rfl (fun c4 => ?_) (fun c4 => ?_)
  ·replace h := ite_t h c4
   refine WT.skip <| WT.seq <| WT.block <| WT.seq <| WT.region <| lq (q_move rfl) rfl <| lq (q_move rfl) rfl <| lq (q_move rfl) rfl ?_
   obtain ⟨x9, hx8, h⟩ := bind_some h
   obtain ⟨cs3, F7, -, g3, hb3, hs3, r3⟩ := h7.elS (idx_some hx8).2.2
   obtain ⟨rfl, -⟩ := r3
   refine lq (q_indexAddr Sl_68 rfl rfl h7.rsl hx8) rfl <| lq (q_load1 T1_9 rfl (fun w1 hw => (g3.of_eq 0 1 rfl rfl : rg _ _ _ [.string x9]).rangeAt hw.fro)) rfl ?_
   obtain ⟨x10, hx9, h⟩ := bind_some h
   refine lp (p_call Fun_38 rfl (fun w1 hw => m_l_hasText_ok hw.fro N x4 x9 h4.rsl hx9)) rfl <| lq (q_not rfl) rfl <| WL.nil ?_
   refine WT.cond rfl (fun c5 => ?_) (fun c5 => ?_)
   ·replace h := ite_t h c5
    refine WT.seq <| WT.region <| lq (q_assign rfl) rfl <| WL.nil ?_
    refine WT.ret Try.func6 (resOk.one rfl) (fun w1 hw => ?_)
    subst hb0
    cases h
    exact post_of_St hw
   replace h := ite_f h c5
   refine WT.skip <| WT.inBlock <| WT.region <| lq (q_move rfl) rfl <| lq (q_add rfl rfl) rfl <| lq (q_assign rfl) rfl <| WL.nil ?_
   refine WT.inLoop (WT.mono (l' := [(3, .pointer (some ⟨b_1, 0, none⟩)), (4, v5), (5, v7), (6, .int .i64 s1), (7, v10), (8, .int .i64 (IntKind.i64.wrap (s2 + 1)))]) (S' := St w0 Φ_5 [(b_1, .cells #[.string x2.Name, .int .i64 x2.Sal, v2, v3, v4] 66 (0, 0))] [ob v10, ob v7, ob v5, ob v2, X1]) ⟨rfl, rfl, rfl, rfl, rfl, rfl, trivial⟩ (fun w1 hw => (hw.sel (js := [0, 0, 0, 0, 0]) rfl).selO (js := [0]) rfl) ?_)
   exact ih2 (IntKind.i64.wrap (s2 + 1)) h
  replace h := ite_f h c4
  refine WT.exit rfl <| WT.seq <| WT.region <| lq (q_move rfl) rfl <| lq (q_fieldAddr Fld_66_2 rfl) rfl <| lq (q_load1 T1_62 rfl (fun w1 hw => hw.rgO (i := 0) rfl 2 1 [v2] rfl)) rfl <| lq (q_move rfl) rfl ?_
  obtain ⟨x11, hx10, h⟩ := bind_some h
  obtain ⟨cs4, F8, -, g4, hb4, hs4, r4⟩ := h1.elS (idx_some hx10).2.2
  obtain ⟨v13, G5, rfl, hq3, h9⟩ := r4
  obtain rfl := hq3.symm
  refine lq (q_indexAddr Sl_62 rfl rfl h1.rsl hx10) rfl <| lq (q_fieldAddr Fld_37_0 rfl) rfl <| lq (q_load1 T1_9 rfl (fun w1 hw => (g4.of_eq 0 1 rfl rfl : rg _ _ _ [.string x11.Kind]).rangeAt hw.fro)) rfl ?_
  obtain ⟨x12, hx11, h⟩ := bind_some h
  refine lp (p_call Fun_38 rfl (fun w1 hw => m_l_hasText_ok hw.fro N x5 x11.Kind h5.rsl hx11)) rfl <| lq (q_not rfl) rfl <| WL.nil ?_
  refine WT.cond rfl (fun c6 => ?_) (fun c6 => ?_)
  ·replace h := ite_t h c6
   refine WT.seq <| WT.region <| lq (q_assign rfl) rfl <| WL.nil ?_
   refine WT.ret Try.func6 (resOk.one rfl) (fun w1 hw => ?_)
   subst hb0
   cases h
   exact post_of_St hw
  replace h := ite_f h c6
  refine WT.skip <| WT.inBlock <| WT.region <| lq (q_move rfl) rfl <| lq (q_add rfl rfl) rfl <| lq (q_assign rfl) rfl <| WL.nil ?_
  refine WT.inLoop (WT.mono (l' := [(3, .pointer (some ⟨b_1, 0, none⟩)), (4, v5), (5, v7), (6, .int .i64 (IntKind.i64.wrap (s1 + 1)))]) (S' := St w0 Φ_5 [(b_1, .cells #[.string x2.Name, .int .i64 x2.Sal, v2, v3, v4] 66 (0, 0))] [ob v7, ob v5, ob v2, X1]) ⟨rfl, rfl, rfl, rfl, trivial⟩ (fun w1 hw => (hw.sel (js := [1, 1, 1, 1]) rfl).selO (js := [0]) rfl) ?_)
  exact ih1 (Φ_5, IntKind.i64.wrap (s1 + 1)) ⟨h, h1, h4, h5, h2, h3⟩
 replace h := ite_f h c2
 refine WT.exit rfl <| WT.seq <| WT.seq <| WT.region <| lq (q_assign rfl) rfl <| WL.nil <| WT.block <| WT.loop <| WT.mono (l' := [(3, .pointer (some ⟨b_1, 0, none⟩)), (4, v5), (5, v7), (9, .int .i64 0)]) (S' := St w0 Φ_4 [(b_1, .cells #[.string x2.Name, .int .i64 x2.Sal, v2, v3, v4] 66 (0, 0))] [ob v7, ob v5, ob v2, X1]) ⟨rfl, rfl, rfl, rfl, trivial⟩ (fun w1 hw => (hw.sel (js := [0, 0, 0, 0]) rfl).selO (js := [0]) rfl) ?_
 refine loop_ind (σ := Int) (fun s => [(3, .pointer (some ⟨b_1, 0, none⟩)), (4, v5), (5, v7), (9, .int .i64 s)]) (fun s => St w0 Φ_4 [(b_1, .cells #[.string x2.Name, .int .i64 x2.Sal, v2, v3, v4] 66 (0, 0))] [ob v7, ob v5, ob v2, X1]) (fun m s => m_l_FnRuleVars_l3 N x2 x4 x5 m s = some r) (fun s hm => none_ne (show (none : Option (Bool)) = some r from hm)) (fun n3 ih3 s hm => ?_) N (0) h
 revert hm; revert s; intro s3 hm
 have h : m_l_FnRuleVars_l3 N x2 x4 x5 (n3 + 1) s3 = some r := hm
 show WT _ _ [(3, .pointer (some ⟨b_1, 0, none⟩)), (4, v5), (5, v7), (9, .int .i64 s3)] (St w0 Φ_4 [(b_1, .cells #[.string x2.Name, .int .i64 x2.Sal, v2, v3, v4] 66 (0, 0))] [ob v7, ob v5, ob v2, X1])
 unfold m_l_FnRuleVars_l3 at h
 refine WT.seq <| WT.seq <| WT.region <| lq (q_move rfl) rfl <| lq (q_move rfl) rfl <| lq (q_lenR Sl_68 rfl rfl h4.rsl) rfl <| lq (q_lss rfl rfl) rfl <| WL.nil ?_
 refine WT.cond rfl (fun c7 => ?_) (fun c7 => ?_)
 ·replace h := ite_t h c7
  refine WT.skip <| WT.seq <| WT.block <| WT.seq <| WT.draw mixed (by kernel_rfl) (fun _ h => h.drew) <| qq (q_move rfl) rfl <| qq (q_move rfl) rfl ?_
  obtain ⟨x13, hx12, h⟩ := bind_some h
  refine qq (q_slH Sl_68 rfl rfl h4.rsl hx12) rfl ?_
  obtain ⟨F9, h10, hs5⟩ := h4.rsl.sub hx12
  refine qq (q_move rfl) rfl <| qq (q_move rfl) rfl ?_
  obtain ⟨x14, hx13, h⟩ := bind_some h
  obtain ⟨cs5, F10, -, g5, hb5, hs6, r5⟩ := h4.elS (idx_some hx13).2.2
  obtain ⟨rfl, -⟩ := r5
  refine qq (q_indexAddr Sl_68 rfl rfl h4.rsl hx13) rfl <| qq (q_load1 T1_9 rfl (fun w1 hw => (g5.of_eq 0 1 rfl rfl : rg _ _ _ [.string x14]).rangeAt hw.fro)) rfl ?_
  obtain ⟨x15, hx14, h⟩ := bind_some h
  refine qp (p_call Fun_38 rfl (fun w1 hw => m_l_hasText_ok hw.fro N x13 x14 h10 hx14)) rfl <| WQ.nil ?_
  refine WT.cond rfl (fun c8 => ?_) (fun c8 => ?_)
  ·replace h := ite_t h c8
   refine WT.seq <| WT.region <| lq (q_assign rfl) rfl <| WL.nil ?_
   refine WT.ret Try.func6 (resOk.one rfl) (fun w1 hw => ?_)
   subst hb0
   cases h
   exact post_of_St hw
  replace h := ite_f h c8
  refine WT.skip <| WT.inBlock <| WT.region <| lq (q_move rfl) rfl <| lq (q_add rfl rfl) rfl <| lq (q_assign rfl) rfl <| WL.nil ?_
  refine WT.inLoop (WT.mono (l' := [(3, .pointer (some ⟨b_1, 0, none⟩)), (4, v5), (5, v7), (9, .int .i64 (IntKind.i64.wrap (s3 + 1)))]) (S' := St w0 Φ_4 [(b_1, .cells #[.string x2.Name, .int .i64 x2.Sal, v2, v3, v4] 66 (0, 0))] [ob v7, ob v5, ob v2, X1]) ⟨rfl, rfl, rfl, rfl, trivial⟩ (fun w1 hw => (hw.sel (js := [0, 0, 0, 0]) rfl).selO (js := [0]) rfl) ?_)
  exact ih3 (IntKind.i64.wrap (s3 + 1)) h
 replace h := ite_f h c7
 refine WT.exit rfl <| WT.seq <| WT.region <| lq (q_move rfl) rfl <| lq (q_loadN Tn_66 rfl (fun w1 hw => hw.rgO (i := 0) rfl 0 5 [.string x2.Name, .int .i64 x2.Sal, v2, v3, v4] rfl) rfl) rfl ?_
 obtain ⟨x16, hx15, h⟩ := bind_some h
 refine lc (k_call (js := []) (R := [ob v7, ob v5, ob v2, X1]) Fun_40 rfl rfl (fun w1 hw ap hl => m_s_PosVars_ok hw.fro N x2 h1.rsl h2 h3  hx15)) rfl (fun v14 Φ_6 F11 q5 => ?_)
 obtain ⟨ap5, fr5, v15, rfl, rfl, h11⟩ := q5
 replace h2 := h2.frame RTCond.lasts fr5 (Dj.sub (ap5.r (i := 3) rfl) i2)
 replace h3 := h3.frame RTAct.lasts fr5 (Dj.sub (ap5.r (i := 3) rfl) i3)
 replace h1 := h1.frame RTPat.lasts fr5 (ap5.r (i := 2) rfl) (Dj.sub (ap5.r (i := 3) rfl) i1)
 replace h4 := h4.frame RS.lasts fr5 (ap5.r (i := 1) rfl) (Dj.nil _)
 replace h5 := h5.frame RS.lasts fr5 (ap5.r (i := 0) rfl) (Dj.nil _)
 obtain ⟨x17, hx16, h⟩ := bind_some h
 refine lp (p_call Fun_39 rfl (fun w1 hw => m_l_sameTexts_ok hw.fro N x4 x16 h4.rsl h11.rsl hx16)) rfl <| lq (q_move rfl) rfl ?_
 refine WL.cutS 5 (σ := Hp × Bool) (fun s => [(85, .bool s.2)]) (fun s => St w0 s.1 [] []) (fun s => m_l_FnRuleVars_j4 N s.2 = some r) (fun s hm => ?_) (fun K => ?_)
 ·clear h
  obtain ⟨Φ_7, s4⟩ := s
  have h : m_l_FnRuleVars_j4 N s4 = some r := hm
  show WL _ _ _ _ [(85, .bool s4)] (St w0 Φ_7 [] [])
  unfold m_l_FnRuleVars_j4 at h
  refine lq (q_assign rfl) rfl <| WL.nil ?_
  refine WT.ret Try.func6 (resOk.one rfl) (fun w1 hw => ?_)
  subst hb0
  cases h
  exact post_of_St hw
 refine WL.split (d := 80) rfl (fun c9 => ?_) (fun c9 => ?_)
 ·replace h := ite_t h c9
  refine WL.yes rfl rfl <| lq (q_move rfl) rfl <| WL.yes rfl rfl <| lq (q_loadN Tn_66 rfl (fun w1 hw => hw.rgO (i := 0) rfl 0 5 [.string x2.Name, .int .i64 x2.Sal, v2, v3, v4] rfl) rfl) rfl <| WL.yes rfl rfl ?_
  obtain ⟨x18, hx17, h⟩ := bind_some h
  refine lc (k_call (js := []) (R := [ob v14, ob v7, ob v5, ob v2, X1]) Fun_41 rfl rfl (fun w1 hw ap hl => m_s_KindsOf_ok hw.fro N x2 h1.rsl h2 h3  hx17)) rfl (fun v16 Φ_8 F12 q6 => ?_)
  obtain ⟨ap6, fr6, v17, rfl, rfl, h12⟩ := q6
  replace h5 := h5.frame RS.lasts fr6 (ap6.r (i := 1) rfl) (Dj.nil _)
  refine WL.yes rfl rfl ?_
  obtain ⟨x19, hx18, h⟩ := bind_some h
  refine lp (p_call Fun_39 rfl (fun w1 hw => m_l_sameTexts_ok hw.fro N x5 x18 h5.rsl h12.rsl hx18)) rfl <| WL.q (q_pick1 rfl rfl) rfl rfl rfl <| WL.mono (l' := [(85, .bool x19)]) (S' := St w0 Φ_8 [] []) (by exact ⟨rfl, trivial⟩) (fun w1 hw => (hw.sel (js := []) rfl).selO (js := []) rfl) ?_
  exact K (Φ_8, x19) h
 replace h := ite_f h c9
 refine WL.no rfl rfl rfl rfl <| WL.no rfl rfl rfl rfl <| WL.no rfl rfl rfl rfl <| WL.no rfl rfl rfl rfl <| WL.q (q_pick0 rfl rfl) rfl rfl rfl <| WL.mono (l' := [(85, .bool false)]) (S' := St w0 Φ_6 [] []) (by exact ⟨rfl, trivial⟩) (fun w1 hw => (hw.sel (js := []) rfl).selO (js := []) rfl) ?_
 exact K (Φ_6, false) h
end Go.Proofs.Ytmhckcoabhahpaa
