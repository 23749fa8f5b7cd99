/- Printed by a program of ours: each Go function computes its Lean function. -/
import Derived.Test.YtjangilipfjcmaaGreatProg
import Derived.Test.YtjangilipfjcmaaGreatWExactNetOfWalk3
namespace Go.Proofs.YtjangilipfjcmaaGreat
open Eng
open Go.RowKit (Below)
set_option linter.unusedVariables false
set_option linter.unusedSimpArgs false

set_option maxRecDepth 100000
set_option maxHeartbeats 1000000
theorem m_i_AlphaOf_ok {Φ : Hp} {w : World} (hΦ : In Φ w) (N : Nat) (p0 : TPat) {pv0_0 : Value} {pG0_0 : List Nat} (ph0_0 : RSl RTArg 5 Φ pG0_0 pv0_0 p0.Args) {r : TAlpha} (h : m_i_AlphaOf N p0 = some r) :
  Calls Tryz.prog 173 [.agg [.string p0.Kind, pv0_0, .bool p0.Not].toArray].toArray w (PostG Φ w [] (fun Φ' Fs v => ∃ (sr_0_0 : Value) (sr_0_1 : Value), v = .agg [.string r.Kind, .int .i64 r.N, sr_0_0, sr_0_1].toArray ∧ Fs = [ob sr_0_0, ob sr_0_1] ∧ OSl RTVal 121 3 Φ' [] sr_0_0 r.Consts ∧ OSl (RI .i64) 3 1 Φ' [] sr_0_1 r.At)) := by
 refine enter Tryz.func173 rfl Tryz.ntmps173 rfl (St.start0 hΦ) ?_
 have pa0_0 : Old ⟨w, [], Φ⟩ pG0_0 := Old.mk hΦ ph0_0.kn (Dj.empty _)
 revert pa0_0
 generalize hb0 : (⟨w, [], Φ⟩ : Base) = w0
 intro pa0_0
 unfold m_i_AlphaOf at h
 refine WT.seq <| WT.region ?_
 refine ln (n_box (C := #[.string p0.Kind, pv0_0, .bool p0.Not]) rfl rfl) rfl (fun b_1 => ?_)
 refine ln (n_alloc (C := #[.string (⟨#[]⟩ : ByteArray), .int .i64 0, .slice none 0 0, .slice none 0 0]) Zr_102 rfl) rfl (fun b_2 => ?_)
 refine WL.nil <| WT.seq <| WT.region <| lq (q_fieldAddr Fld_114_0 rfl) rfl <| lq (q_load1 T1_9 rfl (fun w1 hw => hw.rgO (i := 1) rfl 0 1 [.string p0.Kind] rfl)) rfl <| lq (q_fieldAddr Fld_114_1 rfl) rfl <| lq (q_load1 T1_112 rfl (fun w1 hw => hw.rgO (i := 1) rfl 1 1 [pv0_0] rfl)) rfl <| lq (q_lenR Sl_112 rfl rfl ph0_0) rfl <| lq (q_build (vs := [(0, .string p0.Kind), (1, .int .i64 (p0.Args.length : Int))]) (C := #[.string p0.Kind, .int .i64 (p0.Args.length : Int), .slice none 0 0, .slice none 0 0]) Pl_102 Zr_102 rfl (fill_cons (cells := [.string ⟨#[]⟩, .int .i64 0, .slice none 0 0, .slice none 0 0]) (c := [.string p0.Kind]) (C' := [.string p0.Kind, .int .i64 0, .slice none 0 0, .slice none 0 0]) rfl rfl rfl rfl rfl (fill_cons (cells := [.string p0.Kind, .int .i64 0, .slice none 0 0, .slice none 0 0]) (c := [.int .i64 (p0.Args.length : Int)]) (C' := [.string p0.Kind, .int .i64 (p0.Args.length : Int), .slice none 0 0, .slice none 0 0]) rfl rfl rfl rfl rfl (fill_nil)))) rfl ?_
 refine ln (n_alloc (C := #[.string (⟨#[]⟩ : ByteArray), .int .i64 0, .slice none 0 0, .slice none 0 0]) Zr_102 rfl) rfl (fun b_3 => ?_)
 refine ls (s_store (i := 0) (vs := [.string p0.Kind, .int .i64 (p0.Args.length : Int), .slice none 0 0, .slice none 0 0]) (C' := [.string p0.Kind, .int .i64 (p0.Args.length : Int), .slice none 0 0, .slice none 0 0]) (O' := [(b_3, .cells #[.string p0.Kind, .int .i64 (p0.Args.length : Int), .slice none 0 0, .slice none 0 0] 102 (0, 0)), (b_2, .cells #[.string (⟨#[]⟩ : ByteArray), .int .i64 0, .slice none 0 0, .slice none 0 0] 102 (0, 0)), (b_1, .cells #[.string p0.Kind, pv0_0, .bool p0.Not] 114 (0, 0))]) Sz_102 rfl rfl rfl rfl rfl rfl ⟨rfl, rfl, rfl, rfl, trivial⟩ rfl rfl) rfl ?_
 refine WL.nil <| WT.seq <| WT.seq <| WT.region <| lq (q_fieldAddr Fld_114_1 rfl) rfl <| lq (q_load1 T1_112 rfl (fun w1 hw => hw.rgO (i := 2) rfl 1 1 [pv0_0] rfl)) rfl <| lq (q_lenR Sl_112 rfl rfl ph0_0) rfl <| lq (q_move rfl) rfl <| WL.nil <| WT.block <| WT.loop <| WT.conv (S' := St w0 Φ [(b_3, .cells #[.string p0.Kind, .int .i64 (p0.Args.length : Int), .slice none 0 0, .slice none 0 0] 102 (0, 0)), (b_2, .cells #[.string (⟨#[]⟩ : ByteArray), .int .i64 0, .slice none 0 0, .slice none 0 0] 102 (0, 0)), (b_1, .cells #[.string p0.Kind, pv0_0, .bool p0.Not] 114 (0, 0))] (ob (.slice none 0 0) :: [])) (fun w1 hw => hw.addNil) ?_
 have k1 := OSl.nil RTVal 121 3 Φ
 refine WT.conv (S' := St w0 Φ [(b_3, .cells #[.string p0.Kind, .int .i64 (p0.Args.length : Int), (.slice none 0 0), .slice none 0 0] 102 (0, 0)), (b_2, .cells #[.string (⟨#[]⟩ : ByteArray), .int .i64 0, .slice none 0 0, .slice none 0 0] 102 (0, 0)), (b_1, .cells #[.string p0.Kind, pv0_0, .bool p0.Not] 114 (0, 0))] (ob (.slice none 0 0) :: [ob (.slice none 0 0)])) (fun w1 hw => hw.addNil) ?_
 have k2 := OSl.nil (RI .i64) 3 1 Φ
 refine WT.mono (l' := [(2, .pointer (some ⟨b_2, 0, none⟩)), (3, .pointer (some ⟨b_3, 0, none⟩)), (13, pv0_0), (14, .int .i64 (p0.Args.length : Int)), (15, .int .i64 0)]) (S' := St w0 Φ [(b_3, .cells #[.string p0.Kind, .int .i64 (p0.Args.length : Int), (.slice none 0 0), (.slice none 0 0)] 102 (0, 0)), (b_2, .cells #[.string (⟨#[]⟩ : ByteArray), .int .i64 0, .slice none 0 0, .slice none 0 0] 102 (0, 0))] [ob (.slice none 0 0), ob (.slice none 0 0)]) ⟨rfl, rfl, rfl, rfl, rfl, trivial⟩ (fun w1 hw => (hw.sel (js := [0, 0]) rfl).selO (js := [0, 0]) rfl) ?_
 refine loop_ind (σ := Hp × (List TVal) × Value × (List Int) × Value × Int) (fun s => [(2, .pointer (some ⟨b_2, 0, none⟩)), (3, .pointer (some ⟨b_3, 0, none⟩)), (13, pv0_0), (14, .int .i64 (p0.Args.length : Int)), (15, .int .i64 s.2.2.2.2.2)]) (fun s => St w0 s.1 [(b_3, .cells #[.string p0.Kind, .int .i64 (p0.Args.length : Int), s.2.2.1, s.2.2.2.2.1] 102 (0, 0)), (b_2, .cells #[.string (⟨#[]⟩ : ByteArray), .int .i64 0, .slice none 0 0, .slice none 0 0] 102 (0, 0))] [ob s.2.2.2.2.1, ob s.2.2.1]) (fun m s => m_i_AlphaOf_l1 N p0 m s.2.1 s.2.2.2.1 s.2.2.2.2.2 = some r ∧ (OSl RTVal 121 3 s.1 [] s.2.2.1 s.2.1) ∧ (OSl (RI .i64) 3 1 s.1 [] s.2.2.2.2.1 s.2.2.2.1) ∧ (RSl RTArg 5 s.1 pG0_0 pv0_0 p0.Args)) (fun s hm => none_ne (show (none : Option (TAlpha)) = some r from hm.1)) (fun n1 ih1 s hm => ?_) N (Φ, ([] : List TVal), (.slice none 0 0), ([] : List Int), (.slice none 0 0), 0) ⟨h, k1, k2, ph0_0⟩
 obtain ⟨Φ_1, s1, u1, s2, u2, s3⟩ := s
 obtain ⟨h, k3, k4, ph0_0⟩ := hm
 replace h : m_i_AlphaOf_l1 N p0 (n1 + 1) s1 s2 s3 = some r := h
 replace k3 : OSl RTVal 121 3 Φ_1 [] u1 s1 := k3
 replace k4 : OSl (RI .i64) 3 1 Φ_1 [] u2 s2 := k4
 replace ph0_0 : RSl RTArg 5 Φ_1 pG0_0 pv0_0 p0.Args := ph0_0
 show WT _ _ [(2, .pointer (some ⟨b_2, 0, none⟩)), (3, .pointer (some ⟨b_3, 0, none⟩)), (13, pv0_0), (14, .int .i64 (p0.Args.length : Int)), (15, .int .i64 s3)] (St w0 Φ_1 [(b_3, .cells #[.string p0.Kind, .int .i64 (p0.Args.length : Int), u1, u2] 102 (0, 0)), (b_2, .cells #[.string (⟨#[]⟩ : ByteArray), .int .i64 0, .slice none 0 0, .slice none 0 0] 102 (0, 0))] [ob u2, ob u1])
 unfold m_i_AlphaOf_l1 at h
 refine WT.seq <| WT.region <| lq (q_lss rfl rfl) rfl <| WL.nil <| WT.seq ?_
 refine WT.cond rfl (fun c1 => ?_) (fun c1 => ?_)
 ·replace h := ite_t h c1
  refine WT.skip <| WT.seq <| WT.block <| WT.seq <| WT.region <| lq (q_move rfl) rfl ?_
  obtain ⟨x1, hx1, h⟩ := bind_some h
  obtain ⟨cs1, F1, -, g1, hb1, hs1, r1⟩ := ph0_0.el (idx_some hx1).2.2
  obtain ⟨rfl, -⟩ := r1
  refine lq (q_indexAddr Sl_112 rfl rfl ph0_0 hx1) rfl <| lq (q_loadN Tn_126 rfl (fun w1 hw => (g1.of_eq 0 5 rfl rfl : rg _ _ _ [.int .i64 x1.K, .string x1.S, .int .i64 x1.V.K, .int .i64 x1.V.N, .string x1.V.S]).rangeAt hw.fro) rfl) rfl ?_
  refine ln (n_alloc (C := #[.int .i64 0, .string (⟨#[]⟩ : ByteArray), .int .i64 0, .int .i64 0, .string (⟨#[]⟩ : ByteArray)]) Zr_126 rfl) rfl (fun b_4 => ?_)
  refine lq (q_assign rfl) rfl <| ls (s_store (i := 0) (vs := [.int .i64 x1.K, .string x1.S, .int .i64 x1.V.K, .int .i64 x1.V.N, .string x1.V.S]) (C' := [.int .i64 x1.K, .string x1.S, .int .i64 x1.V.K, .int .i64 x1.V.N, .string x1.V.S]) (O' := [(b_4, .cells #[.int .i64 x1.K, .string x1.S, .int .i64 x1.V.K, .int .i64 x1.V.N, .string x1.V.S] 126 (0, 0)), (b_3, .cells #[.string p0.Kind, .int .i64 (p0.Args.length : Int), u1, u2] 102 (0, 0)), (b_2, .cells #[.string (⟨#[]⟩ : ByteArray), .int .i64 0, .slice none 0 0, .slice none 0 0] 102 (0, 0))]) Sz_126 rfl rfl rfl rfl rfl rfl ⟨rfl, rfl, rfl, rfl, rfl, trivial⟩ rfl rfl) rfl ?_
  refine WL.nil <| WT.seq <| WT.region <| lq (q_fieldAddr Fld_126_0 rfl) rfl <| lq (q_load1 T1_3 rfl (fun w1 hw => hw.rgO (i := 0) rfl 0 1 [.int .i64 x1.K] rfl)) rfl <| lq (q_eql rfl rfl) rfl <| WL.nil ?_
  refine WT.cond rfl (fun c2 => ?_) (fun c2 => ?_)
  ·replace h := ite_t h c2
   refine WT.seq <| WT.region <| lq (q_fieldAddr Fld_102_2 rfl) rfl <| lq (q_load1 T1_100 rfl (fun w1 hw => hw.rgO (i := 1) rfl 2 1 [u1] rfl)) rfl <| lq (q_fieldAddr Fld_126_2 rfl) rfl <| lq (q_loadN Tn_121 rfl (fun w1 hw => hw.rgO (i := 0) rfl 2 3 [.int .i64 x1.V.K, .int .i64 x1.V.N, .string x1.V.S] rfl) rfl) rfl ?_
   have rc1 : RC RTVal 3 Φ_1 ([[]] : List (List Nat)) [.int .i64 x1.V.K, .int .i64 x1.V.N, .string x1.V.S] ([x1.V] : List TVal) := RC.cons (c := [.int .i64 x1.V.K, .int .i64 x1.V.N, .string x1.V.S]) (cells := []) ⟨rfl, rfl⟩ rfl (RC.nil _ _ _)
   refine le' (e_lit (vs := [(0, .agg [.int .i64 x1.V.K, .int .i64 x1.V.N, .string x1.V.S].toArray)]) (C := #[.int .i64 x1.V.K, .int .i64 x1.V.N, .string x1.V.S]) RTVal.lasts Sl_100 Zr_121 rfl rfl rfl rfl (fill_made MC_121_1 (fill_cons (cells := [.int .i64 0, .int .i64 0, .string ⟨#[]⟩]) (c := [.int .i64 x1.V.K, .int .i64 x1.V.N, .string x1.V.S]) (C' := [.int .i64 x1.V.K, .int .i64 x1.V.N, .string x1.V.S]) rfl rfl rfl rfl rfl (fill_nil))) rfl rc1 rfl (by simpa using Kw.nil)) rfl (fun v1 Φ_2 D1 q1 => ?_)
   obtain ⟨fr1, h1⟩ := q1
   replace h1 : OSl RTVal 121 3 Φ_2 [] v1 ([x1.V] : List TVal) := by simpa using h1
   replace ph0_0 := ph0_0.frame RTArg.lasts fr1 (Dj.empty _)
   replace k3 := k3.frame RTVal.lasts fr1 (Dj.empty _) (Dj.empty _)
   replace k4 := k4.frame RI.lasts fr1 (Dj.empty _) (Dj.empty _)
   obtain ⟨x2, hx2, h⟩ := bind_some h
   refine le' (e_appF RTVal.lasts RTVal.one RTVal.flat Sl_100 Ei_121 rfl rfl rfl rfl rfl (js := [2]) (Rr := [ob v1, ob u2]) rfl k3 h1.rsl hx2) rfl (fun v2 Φ_3 D2 q2 => ?_)
   obtain ⟨⟨ap1, fr2⟩, h2⟩ := q2
   replace ph0_0 := ph0_0.frame RTArg.lasts fr2 (ap1.o pa0_0)
   replace k4 := k4.frame RI.lasts fr2 (ap1.r (i := 1) rfl) (Dj.nil _)
   refine lq (q_fieldAddr Fld_102_2 rfl) rfl <| ls (s_store (i := 1) (vs := [v2]) (C' := [.string p0.Kind, .int .i64 (p0.Args.length : Int), v2, u2]) (O' := [(b_4, .cells #[.int .i64 x1.K, .string x1.S, .int .i64 x1.V.K, .int .i64 x1.V.N, .string x1.V.S] 126 (0, 0)), (b_3, .cells #[.string p0.Kind, .int .i64 (p0.Args.length : Int), v2, u2] 102 (0, 0)), (b_2, .cells #[.string (⟨#[]⟩ : ByteArray), .int .i64 0, .slice none 0 0, .slice none 0 0] 102 (0, 0))]) Sz_100 rfl rfl rfl (one_cells h2.one) rfl rfl ⟨h2.one, trivial⟩ rfl rfl) rfl ?_
   refine WL.nil <| WT.region <| lq (q_fieldAddr Fld_102_3 rfl) rfl <| lq (q_load1 T1_41 rfl (fun w1 hw => hw.rgO (i := 1) rfl 3 1 [u2] rfl)) rfl <| lq (q_move rfl) rfl ?_
   have rc2 : RC (RI .i64) 1 Φ_3 ([[]] : List (List Nat)) [.int .i64 s3] ([s3] : List Int) := RC.cons (c := [.int .i64 s3]) (cells := []) ⟨rfl, rfl⟩ rfl (RC.nil _ _ _)
   refine le' (e_lit (vs := [(0, .int .i64 s3)]) (C := #[.int .i64 s3]) RI.lasts Sl_41 Zr_3 rfl rfl rfl rfl (fill_made MC_3_1 (fill_cons (cells := [.int .i64 0]) (c := [.int .i64 s3]) (C' := [.int .i64 s3]) rfl rfl rfl rfl rfl (fill_nil))) rfl rc2 rfl (by simpa using Kw.nil)) rfl (fun v3 Φ_4 D3 q3 => ?_)
   obtain ⟨fr3, h3⟩ := q3
   replace h3 : OSl (RI .i64) 3 1 Φ_4 [] v3 ([s3] : List Int) := by simpa using h3
   replace ph0_0 := ph0_0.frame RTArg.lasts fr3 (Dj.empty _)
   replace h2 := h2.frame RTVal.lasts fr3 (Dj.empty _) (Dj.empty _)
   replace k4 := k4.frame RI.lasts fr3 (Dj.empty _) (Dj.empty _)
   obtain ⟨x3, hx3, h⟩ := bind_some h
   refine le' (e_appF RI.lasts RI.one RI.flat Sl_41 Ei_3 rfl rfl rfl rfl rfl (js := [3]) (Rr := [ob v3, ob v2, ob v1]) rfl k4 h3.rsl hx3) rfl (fun v4 Φ_5 D4 q4 => ?_)
   obtain ⟨⟨ap2, fr4⟩, h4⟩ := q4
   replace ph0_0 := ph0_0.frame RTArg.lasts fr4 (ap2.o pa0_0)
   replace h2 := h2.frame RTVal.lasts fr4 (ap2.r (i := 1) rfl) (Dj.nil _)
   refine lq (q_fieldAddr Fld_102_3 rfl) rfl <| ls (s_store (i := 1) (vs := [v4]) (C' := [.string p0.Kind, .int .i64 (p0.Args.length : Int), v2, v4]) (O' := [(b_4, .cells #[.int .i64 x1.K, .string x1.S, .int .i64 x1.V.K, .int .i64 x1.V.N, .string x1.V.S] 126 (0, 0)), (b_3, .cells #[.string p0.Kind, .int .i64 (p0.Args.length : Int), v2, v4] 102 (0, 0)), (b_2, .cells #[.string (⟨#[]⟩ : ByteArray), .int .i64 0, .slice none 0 0, .slice none 0 0] 102 (0, 0))]) Sz_41 rfl rfl rfl (one_cells h4.one) rfl rfl ⟨h4.one, trivial⟩ rfl rfl) rfl ?_
   refine WL.nil <| WT.inBlock <| WT.region <| lq (q_add rfl rfl) rfl <| lq (q_move rfl) rfl <| WL.nil ?_
   refine WT.inLoop (WT.mono (l' := [(2, .pointer (some ⟨b_2, 0, none⟩)), (3, .pointer (some ⟨b_3, 0, none⟩)), (13, pv0_0), (14, .int .i64 (p0.Args.length : Int)), (15, .int .i64 (IntKind.i64.wrap (s3 + 1)))]) (S' := St w0 Φ_5 [(b_3, .cells #[.string p0.Kind, .int .i64 (p0.Args.length : Int), v2, v4] 102 (0, 0)), (b_2, .cells #[.string (⟨#[]⟩ : ByteArray), .int .i64 0, .slice none 0 0, .slice none 0 0] 102 (0, 0))] [ob v4, ob v2]) ⟨rfl, rfl, rfl, rfl, rfl, trivial⟩ (fun w1 hw => (hw.sel (js := [0, 1]) rfl).selO (js := [1, 1]) rfl) ?_)
   exact ih1 (Φ_5, x2, v2, x3, v4, IntKind.i64.wrap (s3 + 1)) ⟨h, h2, h4, ph0_0⟩
  replace h := ite_f h c2
  refine WT.skip <| WT.inBlock <| WT.region <| lq (q_add rfl rfl) rfl <| lq (q_move rfl) rfl <| WL.nil ?_
  refine WT.inLoop (WT.mono (l' := [(2, .pointer (some ⟨b_2, 0, none⟩)), (3, .pointer (some ⟨b_3, 0, none⟩)), (13, pv0_0), (14, .int .i64 (p0.Args.length : Int)), (15, .int .i64 (IntKind.i64.wrap (s3 + 1)))]) (S' := St w0 Φ_1 [(b_3, .cells #[.string p0.Kind, .int .i64 (p0.Args.length : Int), u1, u2] 102 (0, 0)), (b_2, .cells #[.string (⟨#[]⟩ : ByteArray), .int .i64 0, .slice none 0 0, .slice none 0 0] 102 (0, 0))] [ob u2, ob u1]) ⟨rfl, rfl, rfl, rfl, rfl, trivial⟩ (fun w1 hw => (hw.sel (js := [0, 0]) rfl).selO (js := [1, 1]) rfl) ?_)
  exact ih1 (Φ_1, s1, u1, s2, u2, IntKind.i64.wrap (s3 + 1)) ⟨h, k3, k4, ph0_0⟩
 replace h := ite_f h c1
 refine WT.exit rfl <| WT.seq <| WT.region <| lq (q_loadN Tn_102 rfl (fun w1 hw => hw.rgO (i := 0) rfl 0 4 [.string p0.Kind, .int .i64 (p0.Args.length : Int), u1, u2] rfl) rfl) rfl <| ls (s_store (i := 1) (vs := [.string p0.Kind, .int .i64 (p0.Args.length : Int), u1, u2]) (C' := [.string p0.Kind, .int .i64 (p0.Args.length : Int), u1, u2]) (O' := [(b_3, .cells #[.string p0.Kind, .int .i64 (p0.Args.length : Int), u1, u2] 102 (0, 0)), (b_2, .cells #[.string p0.Kind, .int .i64 (p0.Args.length : Int), u1, u2] 102 (0, 0))]) Sz_102 rfl rfl rfl rfl rfl rfl ⟨rfl, rfl, k3.one, k4.one, trivial⟩ rfl rfl) rfl ?_
 refine WL.nil ?_
 refine WT.ret Tryz.func173 (resOk.one (rv_cell Tn_102 rfl (fun w1 hw => hw.rgO (i := 1) rfl 0 4 [.string p0.Kind, .int .i64 (p0.Args.length : Int), u1, u2] rfl) rfl)) (fun w1 hw => ?_)
 subst hb0
 cases h
 refine postG_of_St (js := [1, 0]) hw rfl ⟨u1, u2, rfl, rfl, k3, k4⟩
theorem m_i_Net_alphaAt_ok {Φ : Hp} {w : World} (hΦ : In Φ w) (N : Nat) (p0 : TNet) (p1 : TPat) {pv0_0 : Value} {pD0_0 : List Nat} {pv0_1 : Value} {pG0_1 : List Nat} {pb0 : Nat} {pv1_0 : Value} {pG1_0 : List Nat} (ph0_0 : OSl OTAlpha 102 4 Φ pD0_0 pv0_0 p0.Alphas) (ph0_1 : RSl RTChain 2 Φ pG0_1 pv0_1 p0.Chains) (pp0 : Φ pb0 = some (.cells #[pv0_0, pv0_1] 27 (0, 0))) (ph1_0 : RSl RTArg 5 Φ pG1_0 pv1_0 p1.Args) (pd0_1 : Dj pG0_1 [[pb0], ob pv0_0, pD0_0].flatten) (pd1_0 : Dj pG1_0 [[pb0], ob pv0_0, pD0_0].flatten) (hB : [[pb0], ob pv0_0, pD0_0].flatten.Nodup) (hlt : ∀ k ∈ [[pb0], ob pv0_0, pD0_0].flatten, k < w.heap.size) {r : Int × TNet} (h : m_i_Net_alphaAt N p0 p1 = some r) :
  Calls Tryz.prog 108 [.pointer (some ⟨pb0, 0, none⟩), .agg [.string p1.Kind, pv1_0, .bool p1.Not].toArray].toArray w (PostG Φ w [[pb0], ob pv0_0, pD0_0].flatten (fun Φ' Fs v => ∃ (so_0_0 : Value) (Do_0_0 : List Nat), v = .int .i64 r.1 ∧ Fs = [[pb0], ob so_0_0, Do_0_0] ∧ OSl OTAlpha 102 4 Φ' Do_0_0 so_0_0 r.2.Alphas ∧ r.2.Chains = p0.Chains ∧ Φ' pb0 = some (.cells #[so_0_0, pv0_1] 27 (0, 0)))) := by
 refine enter Tryz.func108 rfl Tryz.ntmps108 rfl (St.start hΦ [[pb0], ob pv0_0, pD0_0] hB hlt) ?_
 have pa0_1 : Old ⟨w, [[pb0], ob pv0_0, pD0_0].flatten, Φ⟩ pG0_1 := Old.mk hΦ ph0_1.kn pd0_1
 revert pa0_1
 generalize hb0 : (⟨w, [[pb0], ob pv0_0, pD0_0].flatten, Φ⟩ : Base) = w0
 intro pa0_1
 unfold m_i_Net_alphaAt at h
 refine WT.seq <| WT.region ?_
 refine ln (n_box (C := #[.string p1.Kind, pv1_0, .bool p1.Not]) rfl rfl) rfl (fun b_1 => ?_)
 refine lq (q_assign rfl) rfl <| WL.nil <| WT.seq <| WT.region <| lq (q_loadN Tn_114 rfl (fun w1 hw => hw.rgO (i := 0) rfl 0 3 [.string p1.Kind, pv1_0, .bool p1.Not] rfl) rfl) rfl ?_
 obtain ⟨x1, hx1, h⟩ := bind_some h
 refine lc (k_call (js := []) (R := [[pb0], ob pv0_0, pD0_0]) Fun_173 rfl rfl (fun w1 hw ap hl => m_i_AlphaOf_ok hw.fro N p1 ph1_0  hx1)) rfl (fun v1 Φ_1 F1 q1 => ?_)
 obtain ⟨ap1, fr1, v2, v3, rfl, rfl, h1, h2⟩ := q1
 replace ph0_1 := ph0_1.frame RTChain.lasts fr1 (ap1.o pa0_1)
 replace ph0_0 := ph0_0.frame OTAlpha.lasts fr1 (ap1.r (i := 1) rfl) (ap1.r (i := 2) rfl)
 replace pp0 := fr1 _ _ ((ap1.r (i := 0) rfl) _ (by simp)) pp0
 refine ln (n_alloc (C := #[.string (⟨#[]⟩ : ByteArray), .int .i64 0, .slice none 0 0, .slice none 0 0]) Zr_102 rfl) rfl (fun b_2 => ?_)
 refine ls (s_store (i := 0) (vs := [.string x1.Kind, .int .i64 x1.N, v2, v3]) (C' := [.string x1.Kind, .int .i64 x1.N, v2, v3]) (O' := [(b_2, .cells #[.string x1.Kind, .int .i64 x1.N, v2, v3] 102 (0, 0)), (b_1, .cells #[.string p1.Kind, pv1_0, .bool p1.Not] 114 (0, 0))]) Sz_102 rfl rfl rfl rfl rfl rfl ⟨rfl, rfl, h1.one, h2.one, trivial⟩ rfl rfl) rfl <| WL.nil <| WT.seq <| WT.seq <| WT.region <| lq (q_move rfl) rfl <| lq (q_nilCheck rfl) rfl ?_
 refine lq (q_fieldAddr Fld_27_0 rfl) rfl <| lq (q_load1 T1_24 rfl (fun w1 hw => ((rg_cells pp0).of_eq 0 1 rfl rfl : rg _ _ _ [pv0_0]).rangeAt hw.fro)) rfl <| lq (q_lenR Sl_24 rfl rfl (ph0_0.rslG OTAlpha.gives)) rfl <| lq (q_move rfl) rfl <| WL.nil <| WT.block <| WT.loop <| WT.mono (l' := [(0, .pointer (some ⟨pb0, 0, none⟩)), (5, .pointer (some ⟨b_2, 0, none⟩)), (13, pv0_0), (14, .int .i64 (p0.Alphas.length : Int)), (15, .int .i64 0)]) (S' := St w0 Φ_1 [(b_2, .cells #[.string x1.Kind, .int .i64 x1.N, v2, v3] 102 (0, 0))] [ob v2, ob v3, [pb0], ob pv0_0, pD0_0]) ⟨rfl, rfl, rfl, rfl, rfl, trivial⟩ (fun w1 hw => (hw.sel (js := [0, 0, 0, 0, 0]) rfl).selO (js := [0]) rfl) ?_
 refine loop_ind (σ := Int) (fun s => [(0, .pointer (some ⟨pb0, 0, none⟩)), (5, .pointer (some ⟨b_2, 0, none⟩)), (13, pv0_0), (14, .int .i64 (p0.Alphas.length : Int)), (15, .int .i64 s)]) (fun s => St w0 Φ_1 [(b_2, .cells #[.string x1.Kind, .int .i64 x1.N, v2, v3] 102 (0, 0))] [ob v2, ob v3, [pb0], ob pv0_0, pD0_0]) (fun m s => m_i_Net_alphaAt_l1 N p0 x1 m s = some r) (fun s hm => none_ne (show (none : Option (Int × TNet)) = some r from hm)) (fun n1 ih1 s hm => ?_) N (0) h
 revert hm; revert s; intro s1 hm
 have h : m_i_Net_alphaAt_l1 N p0 x1 (n1 + 1) s1 = some r := hm
 show WT _ _ [(0, .pointer (some ⟨pb0, 0, none⟩)), (5, .pointer (some ⟨b_2, 0, none⟩)), (13, pv0_0), (14, .int .i64 (p0.Alphas.length : Int)), (15, .int .i64 s1)] (St w0 Φ_1 [(b_2, .cells #[.string x1.Kind, .int .i64 x1.N, v2, v3] 102 (0, 0))] [ob v2, ob v3, [pb0], ob pv0_0, pD0_0])
 unfold m_i_Net_alphaAt_l1 at h
 refine WT.seq <| WT.region <| lq (q_lss rfl rfl) rfl <| WL.nil <| WT.seq ?_
 refine WT.cond rfl (fun c1 => ?_) (fun c1 => ?_)
 ·replace h := ite_t h c1
  refine WT.skip <| WT.seq <| WT.block <| WT.seq <| WT.region <| lq (q_move rfl) rfl ?_
  obtain ⟨x2, hx2, h⟩ := bind_some h
  obtain ⟨cs1, F2, -, g1, hb1, hs1, r1⟩ := ph0_0.elS (idx_some hx2).2.2
  obtain ⟨v4, v5, rfl, rfl, h3, h4⟩ := r1
  have h5 := h3.rsl
  have h6 := h4.rsl
  refine lq (q_indexAddr Sl_24 rfl rfl ph0_0.rsl hx2) rfl <| lq (q_loadN Tn_102 rfl (fun w1 hw => (g1.of_eq 0 4 rfl rfl : rg _ _ _ [.string x2.Kind, .int .i64 x2.N, v4, v5]).rangeAt hw.fro) rfl) rfl ?_
  refine ln (n_alloc (C := #[.string (⟨#[]⟩ : ByteArray), .int .i64 0, .slice none 0 0, .slice none 0 0]) Zr_102 rfl) rfl (fun b_3 => ?_)
  refine lq (q_assign rfl) rfl <| ls (s_store (i := 0) (vs := [.string x2.Kind, .int .i64 x2.N, v4, v5]) (C' := [.string x2.Kind, .int .i64 x2.N, v4, v5]) (O' := [(b_3, .cells #[.string x2.Kind, .int .i64 x2.N, v4, v5] 102 (0, 0)), (b_2, .cells #[.string x1.Kind, .int .i64 x1.N, v2, v3] 102 (0, 0))]) Sz_102 rfl rfl rfl rfl rfl rfl ⟨rfl, rfl, h5.one, h6.one, trivial⟩ rfl rfl) rfl <| WL.nil <| WT.seq <| WT.region <| lq (q_loadN Tn_102 rfl (fun w1 hw => hw.rgO (i := 0) rfl 0 4 [.string x2.Kind, .int .i64 x2.N, v4, v5] rfl) rfl) rfl ?_
  refine lq (q_loadN Tn_102 rfl (fun w1 hw => hw.rgO (i := 1) rfl 0 4 [.string x1.Kind, .int .i64 x1.N, v2, v3] rfl) rfl) rfl ?_
  obtain ⟨x3, hx3, h⟩ := bind_some h
  refine lp (p_call Fun_52 rfl (fun w1 hw => m_i_SameAlpha_ok hw.fro N x2 x1 h5 h6 h1.rsl h2.rsl hx3)) rfl <| WL.nil ?_
  refine WT.cond rfl (fun c2 => ?_) (fun c2 => ?_)
  ·replace h := ite_t h c2
   refine WT.seq <| WT.region <| lq (q_move rfl) rfl <| lq (q_assign rfl) rfl <| WL.nil ?_
   refine WT.ret Tryz.func108 (resOk.one rfl) (fun w1 hw => ?_)
   subst hb0
   cases h
   refine postG_of_St (js := [2, 2, 2]) hw rfl ⟨pv0_0, pD0_0, rfl, rfl, ph0_0, rfl, pp0⟩
  replace h := ite_f h c2
  refine WT.skip <| WT.inBlock <| WT.region <| lq (q_add rfl rfl) rfl <| lq (q_move rfl) rfl <| WL.nil ?_
  refine WT.inLoop (WT.mono (l' := [(0, .pointer (some ⟨pb0, 0, none⟩)), (5, .pointer (some ⟨b_2, 0, none⟩)), (13, pv0_0), (14, .int .i64 (p0.Alphas.length : Int)), (15, .int .i64 (IntKind.i64.wrap (s1 + 1)))]) (S' := St w0 Φ_1 [(b_2, .cells #[.string x1.Kind, .int .i64 x1.N, v2, v3] 102 (0, 0))] [ob v2, ob v3, [pb0], ob pv0_0, pD0_0]) ⟨rfl, rfl, rfl, rfl, rfl, trivial⟩ (fun w1 hw => (hw.sel (js := [0, 0, 0, 0, 0]) rfl).selO (js := [1]) rfl) ?_)
  exact ih1 (IntKind.i64.wrap (s1 + 1)) h
 replace h := ite_f h c1
 refine WT.exit rfl <| WT.seq <| WT.mix (Kn Φ_1 [pb0] [(b_2, .cells #[.string x1.Kind, .int .i64 x1.N, v2, v3] 102 (0, 0))]) (fun i => match i with | 10 => false | _ => true) mixed (fun _ h => h.drew) <| mq 0 rfl (by kernel_rfl) (fun w1 hw => Kn.of (fun _ _ _ h => h) (AllIn.mem ⟨List.mem_of_getElem? (i := 0) rfl, trivial⟩) hw) (q_move rfl) rfl <| mq 1 rfl (by kernel_rfl) (fun w1 hw => Kn.of (fun _ _ _ h => h) (AllIn.mem ⟨List.mem_of_getElem? (i := 0) rfl, trivial⟩) hw) (q_move rfl) rfl ?_
 refine mq 2 rfl (by kernel_rfl) (fun w1 hw => Kn.of (fun _ _ _ h => h) (AllIn.mem ⟨List.mem_of_getElem? (i := 0) rfl, trivial⟩) hw) (q_nilCheck rfl) rfl <| mq 3 rfl (by kernel_rfl) (fun w1 hw => Kn.of (fun _ _ _ h => h) (AllIn.mem ⟨List.mem_of_getElem? (i := 0) rfl, trivial⟩) hw) (q_fieldAddr Fld_27_0 rfl) rfl <| mq 4 rfl (by kernel_rfl) (fun w1 hw => Kn.of (fun _ _ _ h => h) (AllIn.mem ⟨List.mem_of_getElem? (i := 0) rfl, trivial⟩) hw) (q_load1 T1_24 rfl (fun w1 hw => hw.rg (by simp) ((rg_cells pp0).of_eq 0 1 rfl rfl : rg _ _ _ [pv0_0]))) rfl ?_
 refine mq 5 rfl (by kernel_rfl) (fun w1 hw => Kn.of (fun _ _ _ h => h) (AllIn.mem ⟨List.mem_of_getElem? (i := 0) rfl, trivial⟩) hw) (q_loadN Tn_102 rfl (fun w1 hw => hw.rgO (i := 0) rfl 0 4 [.string x1.Kind, .int .i64 x1.N, v2, v3] rfl) rfl) rfl ?_
 have rc1 : RC OTAlpha 4 Φ_1 ([(ob v2 ++ []) ++ ((ob v3 ++ []))] : List (List Nat)) [.string x1.Kind, .int .i64 x1.N, v2, v3] ([x1] : List TAlpha) := RC.cons (c := [.string x1.Kind, .int .i64 x1.N, v2, v3]) (cells := []) ⟨v2, v3, rfl, rfl, h1, h2⟩ rfl (RC.nil _ _ _)
 refine WM.one 6 (by kernel_rfl) (me rfl (fun _ v Φx D w1 hq hw => Kn.of (fun k hk o ho => hq.1 k o (by simp) ((fun _ _ _ h => h) k hk o ho)) (AllIn.mem ⟨List.mem_of_getElem? (i := 0) rfl, trivial⟩) hw) (e_lit (vs := [(0, .agg [.string x1.Kind, .int .i64 x1.N, v2, v3].toArray)]) (C := #[.string x1.Kind, .int .i64 x1.N, v2, v3]) OTAlpha.lasts Sl_24 Zr_102 rfl rfl rfl rfl (fill_made MC_102_1 (fill_cons (cells := [.string ⟨#[]⟩, .int .i64 0, .slice none 0 0, .slice none 0 0]) (c := [.string x1.Kind, .int .i64 x1.N, v2, v3]) (C' := [.string x1.Kind, .int .i64 x1.N, v2, v3]) rfl rfl rfl rfl rfl (fill_nil))) rfl rc1 rfl (RC.kn OTAlpha.knows rc1)) rfl (fun v6 Φ_2 D1 q2 => ?_))
 obtain ⟨fr2, h7⟩ := q2
 replace h7 : OSl OTAlpha 102 4 Φ_2 ((ob v2 ++ []) ++ ((ob v3 ++ []))) v6 ([x1] : List TAlpha) := by simpa [List.append_assoc] using h7
 replace ph0_1 := ph0_1.frame RTChain.lasts fr2 (Dj.empty _)
 replace ph0_0 := ph0_0.frame OTAlpha.lasts fr2 (Dj.empty _) (Dj.empty _)
 replace pp0 := fr2 _ _ (by simp) pp0
 refine WM.conv (S' := St w0 Φ_2 [(b_2, .cells #[.string x1.Kind, .int .i64 x1.N, v2, v3] 102 (0, 0))] [((ob v2 ++ []) ++ ((ob v3 ++ []))), ob v6, [pb0], ob pv0_0, pD0_0]) (fun w1 hw => hw.merge (js := [1, 1]) rfl (SP.eq (by simp [List.append_assoc, ob_nil]))) ?_
 obtain ⟨x4, hx4, h⟩ := bind_some h
 refine WM.one 7 (by kernel_rfl) (me rfl (fun _ v Φx D w1 hq hw => Kn.of (fun k hk o ho => hq.1.2 k o ((hq.1.1.r (i := 2) rfl) k hk) ((fun k hk o ho => fr2 k o (by simp) ((fun _ _ _ h => h) k hk o ho)) k hk o ho)) (AllIn.mem ⟨List.mem_of_getElem? (i := 0) rfl, trivial⟩) hw) (e_appO OTAlpha.lasts OTAlpha.one Sl_24 Ei_102 rfl rfl rfl rfl rfl (js := [3]) (Rr := [((ob v2 ++ []) ++ ((ob v3 ++ []))), ob v6, [pb0], pD0_0]) rfl ph0_0 h7 (fun ap => (ap.r (i := 3) rfl)) (fun ap => (ap.r (i := 0) rfl)) hx4) rfl (fun v7 Φ_3 D2 q3 => ?_))
 obtain ⟨⟨ap2, fr3⟩, h8⟩ := q3
 replace ph0_1 := ph0_1.frame RTChain.lasts fr3 (ap2.o pa0_1)
 replace pp0 := fr3 _ _ ((ap2.r (i := 2) rfl) _ (by simp)) pp0
 refine WM.conv (S' := St w0 Φ_3 [(b_2, .cells #[.string x1.Kind, .int .i64 x1.N, v2, v3] 102 (0, 0))] [(pD0_0 ++ ((ob v2 ++ []) ++ ((ob v3 ++ [])))), ob v7, ob v6, [pb0]]) (fun w1 hw => hw.merge (js := [4, 1]) rfl (SP.eq (by simp))) <| mqT 8 [9, 10] rfl (by kernel_rfl) (fun w1 hw => Kn.of (fun k hk o ho => fr3 k o ((ap2.r (i := 2) rfl) k hk) ((fun k hk o ho => fr2 k o (by simp) ((fun _ _ _ h => h) k hk o ho)) k hk o ho)) (AllIn.mem ⟨List.mem_of_getElem? (i := 0) rfl, trivial⟩) hw) (q_nilCheck rfl) rfl ?_
 refine mq 9 rfl (by kernel_rfl) (fun w1 hw => Kn.of (fun k hk o ho => fr3 k o ((ap2.r (i := 2) rfl) k hk) ((fun k hk o ho => fr2 k o (by simp) ((fun _ _ _ h => h) k hk o ho)) k hk o ho)) (AllIn.mem ⟨List.mem_of_getElem? (i := 0) rfl, trivial⟩) hw) (q_fieldAddr Fld_27_0 rfl) rfl ?_
 refine WM.thw (js := [3]) (R := [(pD0_0 ++ ((ob v2 ++ []) ++ ((ob v3 ++ [])))), ob v7, ob v6]) rfl pp0 (fun Φ_4 ap3 fr4 => ?_)
 replace ph0_1 := ph0_1.frame RTChain.lasts fr4 (ap3.o pa0_1)
 replace h8 := h8.frame OTAlpha.lasts fr4 (ap3.r (i := 1) rfl) (ap3.r (i := 0) rfl)
 refine WM.one 10 (by kernel_rfl) (ms rfl (fun hc => by cases hc) (s_store (i := 0) (vs := [v7]) (C' := [v7, pv0_1]) (O' := [(pb0, .cells #[v7, pv0_1] 27 (0, 0)), (b_2, .cells #[.string x1.Kind, .int .i64 x1.N, v2, v3] 102 (0, 0))]) Sz_24 rfl rfl rfl (one_cells h8.one) rfl rfl ⟨h8.one, trivial⟩ rfl rfl) rfl ?_)
 refine WM.nil (by kernel_rfl) <| WT.seq <| WT.region <| lq (q_move rfl) rfl <| lq (q_nilCheck rfl) rfl <| lq (q_fieldAddr Fld_27_0 rfl) rfl <| lq (q_load1 T1_24 rfl (fun w1 hw => hw.rgO (i := 0) rfl 0 1 [v7] rfl)) rfl <| lq (q_lenR Sl_24 rfl rfl (h8.rslG OTAlpha.gives)) rfl <| lq (q_sub rfl rfl) rfl <| lq (q_assign rfl) rfl <| WL.nil ?_
 refine WT.frz (js := [0]) (R := [(b_2, .cells #[.string x1.Kind, .int .i64 x1.N, v2, v3] 102 (0, 0))]) rfl (fun Φ_5 fr5 k1 => ?_)
 replace ph0_1 := ph0_1.frame RTChain.lasts fr5 (Dj.empty _)
 replace h8 := h8.frame OTAlpha.lasts fr5 (Dj.empty _) (Dj.empty _)
 refine WT.ret Tryz.func108 (resOk.one rfl) (fun w1 hw => ?_)
 subst hb0
 cases h
 refine postG_of_St (js := [0, 1, 0]) hw rfl ⟨v7, (pD0_0 ++ ((ob v2 ++ []) ++ ((ob v3 ++ [])))), rfl, rfl, h8, rfl, k1⟩
theorem m_i_netIn_ok {Φ : Hp} {w : World} (hΦ : In Φ w) (N : Nat) (p0 : TDef) {pv0_0 : Value} {pG0_0 : List Nat} (ph0_0 : RSl RTRule 5 Φ pG0_0 pv0_0 p0.Rules) {r : TNet} (h : m_i_netIn N p0 = some r) :
  Calls Tryz.prog 50 [.agg [.string p0.Name, pv0_0].toArray].toArray w (PostG Φ w [] (fun Φ' Fs v => ∃ (sr_0_0 : Value) (Dr_0_0 : List Nat) (sr_0_1 : Value) (Dr_0_1 : List Nat), v = .agg [sr_0_0, sr_0_1].toArray ∧ Fs = [ob sr_0_0, Dr_0_0, ob sr_0_1, Dr_0_1] ∧ OSl OTAlpha 102 4 Φ' Dr_0_0 sr_0_0 r.Alphas ∧ OSl OTChain 43 2 Φ' Dr_0_1 sr_0_1 r.Chains)) := by
 refine enter Tryz.func50 rfl Tryz.ntmps50 rfl (St.start0 hΦ) ?_
 have pa0_0 : Old ⟨w, [], Φ⟩ pG0_0 := Old.mk hΦ ph0_0.kn (Dj.empty _)
 revert pa0_0
 generalize hb0 : (⟨w, [], Φ⟩ : Base) = w0
 intro pa0_0
 unfold m_i_netIn at h
 refine WT.seq <| WT.region ?_
 refine ln (n_box (C := #[.string p0.Name, pv0_0]) rfl rfl) rfl (fun b_1 => ?_)
 refine ln (n_alloc (C := #[.slice none 0 0, .slice none 0 0]) Zr_27 rfl) rfl (fun b_2 => ?_)
 refine WL.nil <| WT.seq <| WT.region ?_
 refine ln (n_alloc (C := #[.slice none 0 0, .slice none 0 0]) Zr_27 rfl) rfl (fun b_3 => ?_)
 refine WL.nil <| WT.seq <| WT.seq <| WT.region <| lq (q_fieldAddr Fld_30_1 rfl) rfl <| lq (q_load1 T1_28 rfl (fun w1 hw => hw.rgO (i := 2) rfl 1 1 [pv0_0] rfl)) rfl <| lq (q_lenR Sl_28 rfl rfl ph0_0) rfl <| lq (q_move rfl) rfl <| WL.nil <| WT.block <| WT.loop <| WT.conv (S' := St w0 Φ [(b_3, .cells #[.slice none 0 0, .slice none 0 0] 27 (0, 0)), (b_2, .cells #[.slice none 0 0, .slice none 0 0] 27 (0, 0)), (b_1, .cells #[.string p0.Name, pv0_0] 30 (0, 0))] (ob (.slice none 0 0) :: [])) (fun w1 hw => hw.addNil) ?_
 refine WT.conv (S' := St w0 Φ [(b_3, .cells #[.slice none 0 0, .slice none 0 0] 27 (0, 0)), (b_2, .cells #[.slice none 0 0, .slice none 0 0] 27 (0, 0)), (b_1, .cells #[.string p0.Name, pv0_0] 30 (0, 0))] ([] :: [ob (.slice none 0 0)])) (fun w1 hw => hw.addNil) ?_
 have k1 := OSl.nil OTAlpha 102 4 Φ
 refine WT.conv (S' := St w0 Φ [(b_3, .cells #[(.slice none 0 0), .slice none 0 0] 27 (0, 0)), (b_2, .cells #[.slice none 0 0, .slice none 0 0] 27 (0, 0)), (b_1, .cells #[.string p0.Name, pv0_0] 30 (0, 0))] (ob (.slice none 0 0) :: [[], ob (.slice none 0 0)])) (fun w1 hw => hw.addNil) <| WT.conv (S' := St w0 Φ [(b_3, .cells #[(.slice none 0 0), .slice none 0 0] 27 (0, 0)), (b_2, .cells #[.slice none 0 0, .slice none 0 0] 27 (0, 0)), (b_1, .cells #[.string p0.Name, pv0_0] 30 (0, 0))] ([] :: [ob (.slice none 0 0), [], ob (.slice none 0 0)])) (fun w1 hw => hw.addNil) ?_
 have k2 := OSl.nil OTChain 43 2 Φ
 refine WT.mono (l' := [(2, .pointer (some ⟨b_2, 0, none⟩)), (3, .pointer (some ⟨b_3, 0, none⟩)), (11, pv0_0), (12, .int .i64 (p0.Rules.length : Int)), (13, .int .i64 0)]) (S' := St w0 Φ [(b_3, .cells #[(.slice none 0 0), (.slice none 0 0)] 27 (0, 0)), (b_2, .cells #[.slice none 0 0, .slice none 0 0] 27 (0, 0))] [[], ob (.slice none 0 0), [], ob (.slice none 0 0)]) ⟨rfl, rfl, rfl, rfl, rfl, trivial⟩ (fun w1 hw => (hw.sel (js := [0, 0, 0, 0]) rfl).selO (js := [0, 0]) rfl) ?_
 refine loop_ind (σ := Hp × (List TAlpha) × Value × List Nat × (List TChain) × Value × List Nat × Int) (fun s => [(2, .pointer (some ⟨b_2, 0, none⟩)), (3, .pointer (some ⟨b_3, 0, none⟩)), (11, pv0_0), (12, .int .i64 (p0.Rules.length : Int)), (13, .int .i64 s.2.2.2.2.2.2.2)]) (fun s => St w0 s.1 [(b_3, .cells #[s.2.2.1, s.2.2.2.2.2.1] 27 (0, 0)), (b_2, .cells #[.slice none 0 0, .slice none 0 0] 27 (0, 0))] [s.2.2.2.2.2.2.1, ob s.2.2.2.2.2.1, s.2.2.2.1, ob s.2.2.1]) (fun m s => m_i_netIn_l1 N p0 m s.2.1 s.2.2.2.2.1 s.2.2.2.2.2.2.2 = some r ∧ (OSl OTAlpha 102 4 s.1 s.2.2.2.1 s.2.2.1 s.2.1) ∧ (OSl OTChain 43 2 s.1 s.2.2.2.2.2.2.1 s.2.2.2.2.2.1 s.2.2.2.2.1) ∧ (RSl RTRule 5 s.1 pG0_0 pv0_0 p0.Rules)) (fun s hm => none_ne (show (none : Option (TNet)) = some r from hm.1)) (fun n1 ih1 s hm => ?_) N (Φ, ([] : List TAlpha), (.slice none 0 0), [], ([] : List TChain), (.slice none 0 0), [], 0) ⟨h, k1, k2, ph0_0⟩
 obtain ⟨Φ_1, s1, u1, D1, s2, u2, D2, s3⟩ := s
 obtain ⟨h, k3, k4, ph0_0⟩ := hm
 replace h : m_i_netIn_l1 N p0 (n1 + 1) s1 s2 s3 = some r := h
 replace k3 : OSl OTAlpha 102 4 Φ_1 D1 u1 s1 := k3
 replace k4 : OSl OTChain 43 2 Φ_1 D2 u2 s2 := k4
 replace ph0_0 : RSl RTRule 5 Φ_1 pG0_0 pv0_0 p0.Rules := ph0_0
 show WT _ _ [(2, .pointer (some ⟨b_2, 0, none⟩)), (3, .pointer (some ⟨b_3, 0, none⟩)), (11, pv0_0), (12, .int .i64 (p0.Rules.length : Int)), (13, .int .i64 s3)] (St w0 Φ_1 [(b_3, .cells #[u1, u2] 27 (0, 0)), (b_2, .cells #[.slice none 0 0, .slice none 0 0] 27 (0, 0))] [D2, ob u2, D1, ob u1])
 unfold m_i_netIn_l1 at h
 refine WT.seq <| WT.region <| lq (q_lss rfl rfl) rfl <| WL.nil <| WT.seq ?_
 refine WT.cond rfl (fun c1 => ?_) (fun c1 => ?_)
 ·replace h := ite_t h c1
  refine WT.skip <| WT.seq <| WT.block <| WT.seq <| WT.region ?_
  obtain ⟨x1, hx1, h⟩ := bind_some h
  obtain ⟨cs1, F1, -, g1, hb1, hs1, r1⟩ := ph0_0.el (idx_some hx1).2.2
  obtain ⟨v1, G1, v2, G2, v3, G3, rfl, rfl, h1, h2, h3⟩ := r1
  refine lq (q_indexAddr Sl_28 rfl rfl ph0_0 hx1) rfl <| lq (q_loadN Tn_49 rfl (fun w1 hw => (g1.of_eq 0 5 rfl rfl : rg _ _ _ [.string x1.Name, .int .i64 x1.Sal, v1, v2, v3]).rangeAt hw.fro) rfl) rfl ?_
  refine ln (n_alloc (C := #[.string (⟨#[]⟩ : ByteArray), .int .i64 0, .slice none 0 0, .slice none 0 0, .slice none 0 0]) Zr_49 rfl) rfl (fun b_4 => ?_)
  refine ls (s_store (i := 0) (vs := [.string x1.Name, .int .i64 x1.Sal, v1, v2, v3]) (C' := [.string x1.Name, .int .i64 x1.Sal, v1, v2, v3]) (O' := [(b_4, .cells #[.string x1.Name, .int .i64 x1.Sal, v1, v2, v3] 49 (0, 0)), (b_3, .cells #[u1, u2] 27 (0, 0)), (b_2, .cells #[.slice none 0 0, .slice none 0 0] 27 (0, 0))]) Sz_49 rfl rfl rfl rfl rfl rfl ⟨rfl, rfl, h1.one, h2.one, h3.one, trivial⟩ rfl rfl) rfl <| WL.nil ?_
  refine WT.seq <| WT.region ?_
  refine ln (n_alloc (C := #[.slice none 0 0, .slice none 0 0]) Zr_43 rfl) rfl (fun b_5 => ?_)
  refine WL.nil <| WT.seq <| WT.seq <| WT.region <| lq (q_fieldAddr Fld_49_2 rfl) rfl <| lq (q_load1 T1_45 rfl (fun w1 hw => hw.rgO (i := 1) rfl 2 1 [v1] rfl)) rfl <| lq (q_lenR Sl_45 rfl rfl h1) rfl <| lq (q_move rfl) rfl <| WL.nil <| WT.block <| WT.loop <| WT.conv (S' := St w0 Φ_1 [(b_5, .cells #[.slice none 0 0, .slice none 0 0] 43 (0, 0)), (b_4, .cells #[.string x1.Name, .int .i64 x1.Sal, v1, v2, v3] 49 (0, 0)), (b_3, .cells #[u1, u2] 27 (0, 0)), (b_2, .cells #[.slice none 0 0, .slice none 0 0] 27 (0, 0))] (ob (.slice none 0 0) :: [D2, ob u2, D1, ob u1])) (fun w1 hw => hw.addNil) ?_
  have k5 := OSl.nil (RI .i64) 3 1 Φ_1
  refine WT.conv (S' := St w0 Φ_1 [(b_5, .cells #[.slice none 0 0, (.slice none 0 0)] 43 (0, 0)), (b_4, .cells #[.string x1.Name, .int .i64 x1.Sal, v1, v2, v3] 49 (0, 0)), (b_3, .cells #[u1, u2] 27 (0, 0)), (b_2, .cells #[.slice none 0 0, .slice none 0 0] 27 (0, 0))] (ob (.slice none 0 0) :: [ob (.slice none 0 0), D2, ob u2, D1, ob u1])) (fun w1 hw => hw.addNil) ?_
  have k6 := OSl.nil (RI .i64) 3 1 Φ_1
  refine WT.mono (l' := [(2, .pointer (some ⟨b_2, 0, none⟩)), (3, .pointer (some ⟨b_3, 0, none⟩)), (6, .pointer (some ⟨b_5, 0, none⟩)), (11, pv0_0), (12, .int .i64 (p0.Rules.length : Int)), (13, .int .i64 s3), (18, v1), (19, .int .i64 (x1.Pats.length : Int)), (20, .int .i64 0)]) (S' := St w0 Φ_1 [(b_5, .cells #[(.slice none 0 0), (.slice none 0 0)] 43 (0, 0)), (b_3, .cells #[u1, u2] 27 (0, 0)), (b_2, .cells #[.slice none 0 0, .slice none 0 0] 27 (0, 0))] [ob (.slice none 0 0), ob (.slice none 0 0), D2, ob u2, D1, ob u1]) ⟨rfl, rfl, rfl, rfl, rfl, rfl, rfl, rfl, rfl, trivial⟩ (fun w1 hw => (hw.sel (js := [0, 0, 0, 0, 0, 0]) rfl).selO (js := [0, 1, 1]) rfl) ?_
  refine loop_ind (σ := Hp × (List TAlpha) × Value × List Nat × (List Int) × Value × (List Int) × Value × Int) (fun s => [(2, .pointer (some ⟨b_2, 0, none⟩)), (3, .pointer (some ⟨b_3, 0, none⟩)), (6, .pointer (some ⟨b_5, 0, none⟩)), (11, pv0_0), (12, .int .i64 (p0.Rules.length : Int)), (13, .int .i64 s3), (18, v1), (19, .int .i64 (x1.Pats.length : Int)), (20, .int .i64 s.2.2.2.2.2.2.2.2)]) (fun s => St w0 s.1 [(b_5, .cells #[s.2.2.2.2.2.2.2.1, s.2.2.2.2.2.1] 43 (0, 0)), (b_3, .cells #[s.2.2.1, u2] 27 (0, 0)), (b_2, .cells #[.slice none 0 0, .slice none 0 0] 27 (0, 0))] [ob s.2.2.2.2.2.2.2.1, ob s.2.2.2.2.2.1, D2, ob u2, s.2.2.2.1, ob s.2.2.1]) (fun m s => m_i_netIn_l2 N s2 s3 (m_i_netIn_l1 N p0 n1) x1 m s.2.1 s.2.2.2.2.1 s.2.2.2.2.2.2.1 s.2.2.2.2.2.2.2.2 = some r ∧ (OSl OTAlpha 102 4 s.1 s.2.2.2.1 s.2.2.1 s.2.1) ∧ (OSl OTChain 43 2 s.1 D2 u2 s2) ∧ (OSl (RI .i64) 3 1 s.1 [] s.2.2.2.2.2.1 s.2.2.2.2.1) ∧ (OSl (RI .i64) 3 1 s.1 [] s.2.2.2.2.2.2.2.1 s.2.2.2.2.2.2.1) ∧ (RSl RTRule 5 s.1 pG0_0 pv0_0 p0.Rules) ∧ (RSl RTPat 3 s.1 G1 v1 x1.Pats)) (fun s hm => none_ne (show (none : Option (TNet)) = some r from hm.1)) (fun n2 ih2 s hm => ?_) N (Φ_1, s1, u1, D1, ([] : List Int), (.slice none 0 0), ([] : List Int), (.slice none 0 0), 0) ⟨h, k3, k4, k5, k6, ph0_0, h1⟩
  obtain ⟨Φ_2, s4, u3, D3, s5, u4, s6, u5, s7⟩ := s
  obtain ⟨h, k7, k4, k8, k9, ph0_0, h1⟩ := hm
  replace h : m_i_netIn_l2 N s2 s3 (m_i_netIn_l1 N p0 n1) x1 (n2 + 1) s4 s5 s6 s7 = some r := h
  replace k7 : OSl OTAlpha 102 4 Φ_2 D3 u3 s4 := k7
  replace k4 : OSl OTChain 43 2 Φ_2 D2 u2 s2 := k4
  replace k8 : OSl (RI .i64) 3 1 Φ_2 [] u4 s5 := k8
  replace k9 : OSl (RI .i64) 3 1 Φ_2 [] u5 s6 := k9
  replace ph0_0 : RSl RTRule 5 Φ_2 pG0_0 pv0_0 p0.Rules := ph0_0
  replace h1 : RSl RTPat 3 Φ_2 G1 v1 x1.Pats := h1
  show WT _ _ [(2, .pointer (some ⟨b_2, 0, none⟩)), (3, .pointer (some ⟨b_3, 0, none⟩)), (6, .pointer (some ⟨b_5, 0, none⟩)), (11, pv0_0), (12, .int .i64 (p0.Rules.length : Int)), (13, .int .i64 s3), (18, v1), (19, .int .i64 (x1.Pats.length : Int)), (20, .int .i64 s7)] (St w0 Φ_2 [(b_5, .cells #[u5, u4] 43 (0, 0)), (b_3, .cells #[u3, u2] 27 (0, 0)), (b_2, .cells #[.slice none 0 0, .slice none 0 0] 27 (0, 0))] [ob u5, ob u4, D2, ob u2, D3, ob u3])
  unfold m_i_netIn_l2 at h
  refine WT.seq <| WT.region <| lq (q_lss rfl rfl) rfl <| WL.nil <| WT.seq ?_
  refine WT.cond rfl (fun c2 => ?_) (fun c2 => ?_)
  ·replace h := ite_t h c2
   refine WT.skip <| WT.seq <| WT.block <| WT.seq <| WT.region ?_
   obtain ⟨x2, hx2, h⟩ := bind_some h
   obtain ⟨cs2, F2, -, g2, hb2, hs2, r2⟩ := h1.el (idx_some hx2).2.2
   obtain ⟨v4, G4, rfl, hq1, h4⟩ := r2
   obtain rfl := hq1.symm
   refine lq (q_indexAddr Sl_45 rfl rfl h1 hx2) rfl <| lq (q_loadN Tn_114 rfl (fun w1 hw => (g2.of_eq 0 3 rfl rfl : rg _ _ _ [.string x2.Kind, v4, .bool x2.Not]).rangeAt hw.fro) rfl) rfl ?_
   refine ln (n_alloc (C := #[.string (⟨#[]⟩ : ByteArray), .slice none 0 0, .bool false]) Zr_114 rfl) rfl (fun b_6 => ?_)
   refine ls (s_store (i := 0) (vs := [.string x2.Kind, v4, .bool x2.Not]) (C' := [.string x2.Kind, v4, .bool x2.Not]) (O' := [(b_6, .cells #[.string x2.Kind, v4, .bool x2.Not] 114 (0, 0)), (b_5, .cells #[u5, u4] 43 (0, 0)), (b_3, .cells #[u3, u2] 27 (0, 0)), (b_2, .cells #[.slice none 0 0, .slice none 0 0] 27 (0, 0))]) Sz_114 rfl rfl rfl rfl rfl rfl ⟨rfl, h4.one, rfl, trivial⟩ rfl rfl) rfl <| WL.nil <| WT.seq <| WT.region ?_
   refine lq (q_loadN Tn_114 rfl (fun w1 hw => hw.rgO (i := 0) rfl 0 3 [.string x2.Kind, v4, .bool x2.Not] rfl) rfl) rfl ?_
   refine WL.frz (js := [2]) (R := [(b_6, .cells #[.string x2.Kind, v4, .bool x2.Not] 114 (0, 0)), (b_5, .cells #[u5, u4] 43 (0, 0)), (b_2, .cells #[.slice none 0 0, .slice none 0 0] 27 (0, 0))]) rfl (fun Φ_3 fr1 k10 => ?_)
   replace ph0_0 := ph0_0.frame RTRule.lasts fr1 (Dj.empty _)
   replace h1 := h1.frame RTPat.lasts fr1 (Dj.empty _)
   replace h4 := h4.frame RTArg.lasts fr1 (Dj.empty _)
   replace k7 := k7.frame OTAlpha.lasts fr1 (Dj.empty _) (Dj.empty _)
   replace k4 := k4.frame OTChain.lasts fr1 (Dj.empty _) (Dj.empty _)
   replace k8 := k8.frame RI.lasts fr1 (Dj.empty _) (Dj.empty _)
   replace k9 := k9.frame RI.lasts fr1 (Dj.empty _) (Dj.empty _)
   obtain ⟨x3, hx3, h⟩ := bind_some h
   refine lc (k_call (js := [0, 5, 4]) (R := [ob u5, ob u4, D2, ob u2]) Fun_108 rfl rfl (fun w1 hw ap hl => m_i_Net_alphaAt_ok hw.fro N (⟨s4, s2⟩ : TNet) x2 k7 (k4.rslG OTChain.gives) k10 h4 (Dj.app (ap.r (i := 3) rfl) (ap.r (i := 2) rfl)) (Dj.sub (Dj.sub (ap.o pa0_0) (fun k h => hs1 k (List.mem_append.2 (.inl h)))) (fun k h => hs2 k h)) ap.nd hl hx3)) rfl (fun v5 Φ_4 F3 q1 => ?_)
   obtain ⟨ap1, fr2, v6, D4, rfl, rfl, h5, e1, h6⟩ := q1
   replace ph0_0 := ph0_0.frame RTRule.lasts fr2 (ap1.o pa0_0)
   replace h1 := h1.frame RTPat.lasts fr2 (Dj.sub (ap1.o pa0_0) (fun k h => hs1 k (List.mem_append.2 (.inl h))))
   replace h4 := h4.frame RTArg.lasts fr2 (Dj.sub (Dj.sub (ap1.o pa0_0) (fun k h => hs1 k (List.mem_append.2 (.inl h)))) (fun k h => hs2 k h))
   replace k4 := k4.frame OTChain.lasts fr2 (ap1.r (i := 3) rfl) (ap1.r (i := 2) rfl)
   replace k8 := k8.frame RI.lasts fr2 (ap1.r (i := 1) rfl) (Dj.nil _)
   replace k9 := k9.frame RI.lasts fr2 (ap1.r (i := 0) rfl) (Dj.nil _)
   refine lq (q_assign rfl) rfl <| WL.nil <| WT.seq <| WT.region <| lq (q_fieldAddr Fld_114_2 rfl) rfl <| lq (q_load1 T1_4 rfl (fun w1 hw => hw.rgO (i := 0) rfl 2 1 [.bool x2.Not] rfl)) rfl <| WL.nil ?_
   refine WT.cond rfl (fun c3 => ?_) (fun c3 => ?_)
   ·replace h := ite_t h c3
    refine WT.region <| lq (q_fieldAddr Fld_43_1 rfl) rfl <| lq (q_load1 T1_41 rfl (fun w1 hw => hw.rgO (i := 1) rfl 1 1 [u4] rfl)) rfl <| lq (q_move rfl) rfl ?_
    have rc1 : RC (RI .i64) 1 Φ_4 ([[]] : List (List Nat)) [.int .i64 x3.1] ([x3.1] : List Int) := RC.cons (c := [.int .i64 x3.1]) (cells := []) ⟨rfl, rfl⟩ rfl (RC.nil _ _ _)
    refine le' (e_lit (vs := [(0, .int .i64 x3.1)]) (C := #[.int .i64 x3.1]) RI.lasts Sl_41 Zr_3 rfl rfl rfl rfl (fill_made MC_3_1 (fill_cons (cells := [.int .i64 0]) (c := [.int .i64 x3.1]) (C' := [.int .i64 x3.1]) rfl rfl rfl rfl rfl (fill_nil))) rfl rc1 rfl (by simpa using Kw.nil)) rfl (fun v7 Φ_5 D5 q2 => ?_)
    obtain ⟨fr3, h7⟩ := q2
    replace h7 : OSl (RI .i64) 3 1 Φ_5 [] v7 ([x3.1] : List Int) := by simpa using h7
    replace ph0_0 := ph0_0.frame RTRule.lasts fr3 (Dj.empty _)
    replace h1 := h1.frame RTPat.lasts fr3 (Dj.empty _)
    replace k4 := k4.frame OTChain.lasts fr3 (Dj.empty _) (Dj.empty _)
    replace k8 := k8.frame RI.lasts fr3 (Dj.empty _) (Dj.empty _)
    replace k9 := k9.frame RI.lasts fr3 (Dj.empty _) (Dj.empty _)
    replace h5 := h5.frame OTAlpha.lasts fr3 (Dj.empty _) (Dj.empty _)
    replace h6 := fr3 _ _ (by simp) h6
    obtain ⟨x4, hx4, h⟩ := bind_some h
    refine le' (e_appF RI.lasts RI.one RI.flat Sl_41 Ei_3 rfl rfl rfl rfl rfl (js := [5]) (Rr := [ob v7, [b_3], ob v6, D4, ob u5, D2, ob u2]) rfl k8 h7.rsl hx4) rfl (fun v8 Φ_6 D6 q3 => ?_)
    obtain ⟨⟨ap2, fr4⟩, h8⟩ := q3
    replace ph0_0 := ph0_0.frame RTRule.lasts fr4 (ap2.o pa0_0)
    replace h1 := h1.frame RTPat.lasts fr4 (Dj.sub (ap2.o pa0_0) (fun k h => hs1 k (List.mem_append.2 (.inl h))))
    replace k4 := k4.frame OTChain.lasts fr4 (ap2.r (i := 6) rfl) (ap2.r (i := 5) rfl)
    replace k9 := k9.frame RI.lasts fr4 (ap2.r (i := 4) rfl) (Dj.nil _)
    replace h5 := h5.frame OTAlpha.lasts fr4 (ap2.r (i := 2) rfl) (ap2.r (i := 3) rfl)
    replace h6 := fr4 _ _ ((ap2.r (i := 1) rfl) _ (by simp)) h6
    refine lq (q_fieldAddr Fld_43_1 rfl) rfl <| ls (s_store (i := 1) (vs := [v8]) (C' := [u5, v8]) (O' := [(b_6, .cells #[.string x2.Kind, v4, .bool x2.Not] 114 (0, 0)), (b_5, .cells #[u5, v8] 43 (0, 0)), (b_2, .cells #[.slice none 0 0, .slice none 0 0] 27 (0, 0))]) Sz_41 rfl rfl rfl (one_cells h8.one) rfl rfl ⟨h8.one, trivial⟩ rfl rfl) rfl <| WL.nil <| WT.inBlock <| WT.region <| lq (q_add rfl rfl) rfl <| lq (q_move rfl) rfl <| WL.nil ?_
    refine WT.thw (js := [2]) (R := [ob v8, ob v7, ob v6, D4, ob u5, D2, ob u2]) rfl h6 (fun Φ_7 ap3 fr5 => ?_)
    replace ph0_0 := ph0_0.frame RTRule.lasts fr5 (ap3.o pa0_0)
    replace h1 := h1.frame RTPat.lasts fr5 (Dj.sub (ap3.o pa0_0) (fun k h => hs1 k (List.mem_append.2 (.inl h))))
    replace k4 := k4.frame OTChain.lasts fr5 (ap3.r (i := 6) rfl) (ap3.r (i := 5) rfl)
    replace h8 := h8.frame RI.lasts fr5 (ap3.r (i := 0) rfl) (Dj.nil _)
    replace k9 := k9.frame RI.lasts fr5 (ap3.r (i := 4) rfl) (Dj.nil _)
    replace h5 := h5.frame OTAlpha.lasts fr5 (ap3.r (i := 2) rfl) (ap3.r (i := 3) rfl)
    refine WT.inLoop (WT.mono (l' := [(2, .pointer (some ⟨b_2, 0, none⟩)), (3, .pointer (some ⟨b_3, 0, none⟩)), (6, .pointer (some ⟨b_5, 0, none⟩)), (11, pv0_0), (12, .int .i64 (p0.Rules.length : Int)), (13, .int .i64 s3), (18, v1), (19, .int .i64 (x1.Pats.length : Int)), (20, .int .i64 (IntKind.i64.wrap (s7 + 1)))]) (S' := St w0 Φ_7 [(b_5, .cells #[u5, v8] 43 (0, 0)), (b_3, .cells #[v6, u2] 27 (0, 0)), (b_2, .cells #[.slice none 0 0, .slice none 0 0] 27 (0, 0))] [ob u5, ob v8, D2, ob u2, D4, ob v6]) ⟨rfl, rfl, rfl, rfl, rfl, rfl, rfl, rfl, rfl, trivial⟩ (fun w1 hw => (hw.sel (js := [4, 0, 3, 3, 2, 1]) rfl).selO (js := [2, 0, 1]) rfl) ?_)
    exact ih2 (Φ_7, x3.2.Alphas, v6, D4, x4, v8, s6, u5, IntKind.i64.wrap (s7 + 1)) ⟨h, h5, k4, h8, k9, ph0_0, h1⟩
   replace h := ite_f h c3
   refine WT.region <| lq (q_fieldAddr Fld_43_0 rfl) rfl <| lq (q_load1 T1_41 rfl (fun w1 hw => hw.rgO (i := 1) rfl 0 1 [u5] rfl)) rfl <| lq (q_move rfl) rfl ?_
   have rc2 : RC (RI .i64) 1 Φ_4 ([[]] : List (List Nat)) [.int .i64 x3.1] ([x3.1] : List Int) := RC.cons (c := [.int .i64 x3.1]) (cells := []) ⟨rfl, rfl⟩ rfl (RC.nil _ _ _)
   refine le' (e_lit (vs := [(0, .int .i64 x3.1)]) (C := #[.int .i64 x3.1]) RI.lasts Sl_41 Zr_3 rfl rfl rfl rfl (fill_made MC_3_1 (fill_cons (cells := [.int .i64 0]) (c := [.int .i64 x3.1]) (C' := [.int .i64 x3.1]) rfl rfl rfl rfl rfl (fill_nil))) rfl rc2 rfl (by simpa using Kw.nil)) rfl (fun v9 Φ_8 D7 q4 => ?_)
   obtain ⟨fr6, h9⟩ := q4
   replace h9 : OSl (RI .i64) 3 1 Φ_8 [] v9 ([x3.1] : List Int) := by simpa using h9
   replace ph0_0 := ph0_0.frame RTRule.lasts fr6 (Dj.empty _)
   replace h1 := h1.frame RTPat.lasts fr6 (Dj.empty _)
   replace k4 := k4.frame OTChain.lasts fr6 (Dj.empty _) (Dj.empty _)
   replace k8 := k8.frame RI.lasts fr6 (Dj.empty _) (Dj.empty _)
   replace k9 := k9.frame RI.lasts fr6 (Dj.empty _) (Dj.empty _)
   replace h5 := h5.frame OTAlpha.lasts fr6 (Dj.empty _) (Dj.empty _)
   replace h6 := fr6 _ _ (by simp) h6
   obtain ⟨x5, hx5, h⟩ := bind_some h
   refine le' (e_appF RI.lasts RI.one RI.flat Sl_41 Ei_3 rfl rfl rfl rfl rfl (js := [4]) (Rr := [ob v9, [b_3], ob v6, D4, ob u4, D2, ob u2]) rfl k9 h9.rsl hx5) rfl (fun v10 Φ_9 D8 q5 => ?_)
   obtain ⟨⟨ap4, fr7⟩, h10⟩ := q5
   replace ph0_0 := ph0_0.frame RTRule.lasts fr7 (ap4.o pa0_0)
   replace h1 := h1.frame RTPat.lasts fr7 (Dj.sub (ap4.o pa0_0) (fun k h => hs1 k (List.mem_append.2 (.inl h))))
   replace k4 := k4.frame OTChain.lasts fr7 (ap4.r (i := 6) rfl) (ap4.r (i := 5) rfl)
   replace k8 := k8.frame RI.lasts fr7 (ap4.r (i := 4) rfl) (Dj.nil _)
   replace h5 := h5.frame OTAlpha.lasts fr7 (ap4.r (i := 2) rfl) (ap4.r (i := 3) rfl)
   replace h6 := fr7 _ _ ((ap4.r (i := 1) rfl) _ (by simp)) h6
   refine lq (q_fieldAddr Fld_43_0 rfl) rfl <| ls (s_store (i := 1) (vs := [v10]) (C' := [v10, u4]) (O' := [(b_6, .cells #[.string x2.Kind, v4, .bool x2.Not] 114 (0, 0)), (b_5, .cells #[v10, u4] 43 (0, 0)), (b_2, .cells #[.slice none 0 0, .slice none 0 0] 27 (0, 0))]) Sz_41 rfl rfl rfl (one_cells h10.one) rfl rfl ⟨h10.one, trivial⟩ rfl rfl) rfl <| WL.nil <| WT.inBlock <| WT.region <| lq (q_add rfl rfl) rfl <| lq (q_move rfl) rfl <| WL.nil ?_
   refine WT.thw (js := [2]) (R := [ob v10, ob v9, ob v6, D4, ob u4, D2, ob u2]) rfl h6 (fun Φ_10 ap5 fr8 => ?_)
   replace ph0_0 := ph0_0.frame RTRule.lasts fr8 (ap5.o pa0_0)
   replace h1 := h1.frame RTPat.lasts fr8 (Dj.sub (ap5.o pa0_0) (fun k h => hs1 k (List.mem_append.2 (.inl h))))
   replace k4 := k4.frame OTChain.lasts fr8 (ap5.r (i := 6) rfl) (ap5.r (i := 5) rfl)
   replace k8 := k8.frame RI.lasts fr8 (ap5.r (i := 4) rfl) (Dj.nil _)
   replace h10 := h10.frame RI.lasts fr8 (ap5.r (i := 0) rfl) (Dj.nil _)
   replace h5 := h5.frame OTAlpha.lasts fr8 (ap5.r (i := 2) rfl) (ap5.r (i := 3) rfl)
   refine WT.inLoop (WT.mono (l' := [(2, .pointer (some ⟨b_2, 0, none⟩)), (3, .pointer (some ⟨b_3, 0, none⟩)), (6, .pointer (some ⟨b_5, 0, none⟩)), (11, pv0_0), (12, .int .i64 (p0.Rules.length : Int)), (13, .int .i64 s3), (18, v1), (19, .int .i64 (x1.Pats.length : Int)), (20, .int .i64 (IntKind.i64.wrap (s7 + 1)))]) (S' := St w0 Φ_10 [(b_5, .cells #[v10, u4] 43 (0, 0)), (b_3, .cells #[v6, u2] 27 (0, 0)), (b_2, .cells #[.slice none 0 0, .slice none 0 0] 27 (0, 0))] [ob v10, ob u4, D2, ob u2, D4, ob v6]) ⟨rfl, rfl, rfl, rfl, rfl, rfl, rfl, rfl, rfl, trivial⟩ (fun w1 hw => (hw.sel (js := [0, 3, 3, 3, 2, 1]) rfl).selO (js := [2, 0, 1]) rfl) ?_)
   exact ih2 (Φ_10, x3.2.Alphas, v6, D4, s5, u4, x5, v10, IntKind.i64.wrap (s7 + 1)) ⟨h, h5, k4, k8, h10, ph0_0, h1⟩
  replace h := ite_f h c2
  refine WT.exit rfl <| WT.region <| lq (q_fieldAddr Fld_27_1 rfl) rfl <| lq (q_load1 T1_25 rfl (fun w1 hw => hw.rgO (i := 1) rfl 1 1 [u2] rfl)) rfl <| lq (q_loadN Tn_43 rfl (fun w1 hw => hw.rgO (i := 0) rfl 0 2 [u5, u4] rfl) rfl) rfl ?_
  have rc3 : RC OTChain 2 Φ_2 ([(ob u5 ++ []) ++ ((ob u4 ++ []))] : List (List Nat)) [u5, u4] ([(⟨s6, s5⟩ : TChain)] : List TChain) := RC.cons (c := [u5, u4]) (cells := []) ⟨u5, u4, rfl, rfl, k9, k8⟩ rfl (RC.nil _ _ _)
  refine le' (e_lit (vs := [(0, .agg [u5, u4].toArray)]) (C := #[u5, u4]) OTChain.lasts Sl_25 Zr_43 rfl rfl rfl rfl (fill_made MC_43_1 (fill_cons (cells := [.slice none 0 0, .slice none 0 0]) (c := [u5, u4]) (C' := [u5, u4]) rfl rfl rfl rfl rfl (fill_nil))) rfl rc3 rfl (RC.kn OTChain.knows rc3)) rfl (fun v11 Φ_11 D9 q6 => ?_)
  obtain ⟨fr9, h11⟩ := q6
  replace h11 : OSl OTChain 43 2 Φ_11 ((ob u5 ++ []) ++ ((ob u4 ++ []))) v11 ([(⟨s6, s5⟩ : TChain)] : List TChain) := by simpa [List.append_assoc] using h11
  replace ph0_0 := ph0_0.frame RTRule.lasts fr9 (Dj.empty _)
  replace k7 := k7.frame OTAlpha.lasts fr9 (Dj.empty _) (Dj.empty _)
  replace k4 := k4.frame OTChain.lasts fr9 (Dj.empty _) (Dj.empty _)
  refine WL.conv (S' := St w0 Φ_11 [(b_5, .cells #[u5, u4] 43 (0, 0)), (b_3, .cells #[u3, u2] 27 (0, 0)), (b_2, .cells #[.slice none 0 0, .slice none 0 0] 27 (0, 0))] [((ob u5 ++ []) ++ ((ob u4 ++ []))), ob v11, D2, ob u2, D3, ob u3]) (fun w1 hw => hw.merge (js := [1, 1]) rfl (SP.eq (by simp [List.append_assoc, ob_nil]))) ?_
  obtain ⟨x6, hx6, h⟩ := bind_some h
  refine le' (e_appO OTChain.lasts OTChain.one Sl_25 Ei_43 rfl rfl rfl rfl rfl (js := [3]) (Rr := [((ob u5 ++ []) ++ ((ob u4 ++ []))), ob v11, D2, D3, ob u3]) rfl k4 h11 (fun ap => (ap.r (i := 2) rfl)) (fun ap => (ap.r (i := 0) rfl)) hx6) rfl (fun v12 Φ_12 D10 q7 => ?_)
  obtain ⟨⟨ap6, fr10⟩, h12⟩ := q7
  replace ph0_0 := ph0_0.frame RTRule.lasts fr10 (ap6.o pa0_0)
  replace k7 := k7.frame OTAlpha.lasts fr10 (ap6.r (i := 4) rfl) (ap6.r (i := 3) rfl)
  refine WL.conv (S' := St w0 Φ_12 [(b_5, .cells #[u5, u4] 43 (0, 0)), (b_3, .cells #[u3, u2] 27 (0, 0)), (b_2, .cells #[.slice none 0 0, .slice none 0 0] 27 (0, 0))] [(D2 ++ ((ob u5 ++ []) ++ ((ob u4 ++ [])))), ob v12, ob v11, D3, ob u3]) (fun w1 hw => hw.merge (js := [3, 1]) rfl (SP.eq (by simp))) <| lq (q_fieldAddr Fld_27_1 rfl) rfl <| ls (s_store (i := 1) (vs := [v12]) (C' := [u3, v12]) (O' := [(b_5, .cells #[u5, u4] 43 (0, 0)), (b_3, .cells #[u3, v12] 27 (0, 0)), (b_2, .cells #[.slice none 0 0, .slice none 0 0] 27 (0, 0))]) Sz_25 rfl rfl rfl (one_cells h12.one) rfl rfl ⟨h12.one, trivial⟩ rfl rfl) rfl ?_
  refine WL.nil <| WT.inBlock <| WT.region <| lq (q_add rfl rfl) rfl <| lq (q_move rfl) rfl <| WL.nil ?_
  refine WT.inLoop (WT.mono (l' := [(2, .pointer (some ⟨b_2, 0, none⟩)), (3, .pointer (some ⟨b_3, 0, none⟩)), (11, pv0_0), (12, .int .i64 (p0.Rules.length : Int)), (13, .int .i64 (IntKind.i64.wrap (s3 + 1)))]) (S' := St w0 Φ_12 [(b_3, .cells #[u3, v12] 27 (0, 0)), (b_2, .cells #[.slice none 0 0, .slice none 0 0] 27 (0, 0))] [(D2 ++ ((ob u5 ++ []) ++ ((ob u4 ++ [])))), ob v12, D3, ob u3]) ⟨rfl, rfl, rfl, rfl, rfl, trivial⟩ (fun w1 hw => (hw.sel (js := [0, 0, 1, 1]) rfl).selO (js := [1, 1]) rfl) ?_)
  exact ih1 (Φ_12, s4, u3, D3, x6, v12, (D2 ++ ((ob u5 ++ []) ++ ((ob u4 ++ [])))), IntKind.i64.wrap (s3 + 1)) ⟨h, k7, h12, ph0_0⟩
 replace h := ite_f h c1
 refine WT.exit rfl <| WT.seq <| WT.region <| lq (q_loadN Tn_27 rfl (fun w1 hw => hw.rgO (i := 0) rfl 0 2 [u1, u2] rfl) rfl) rfl <| ls (s_store (i := 1) (vs := [u1, u2]) (C' := [u1, u2]) (O' := [(b_3, .cells #[u1, u2] 27 (0, 0)), (b_2, .cells #[u1, u2] 27 (0, 0))]) Sz_27 rfl rfl rfl rfl rfl rfl ⟨k3.one, k4.one, trivial⟩ rfl rfl) rfl <| WL.nil ?_
 refine WT.ret Tryz.func50 (resOk.one (rv_cell Tn_27 rfl (fun w1 hw => hw.rgO (i := 1) rfl 0 2 [u1, u2] rfl) rfl)) (fun w1 hw => ?_)
 subst hb0
 cases h
 refine postG_of_St (js := [3, 2, 1, 0]) hw rfl ⟨u1, D1, u2, D2, rfl, rfl, k3, k4⟩
theorem m_i_NetOf_ok {Φ : Hp} {w : World} (hΦ : In Φ w) (N : Nat) (p0 : TDef) {pv0_0 : Value} {pG0_0 : List Nat} (ph0_0 : RSl RTRule 5 Φ pG0_0 pv0_0 p0.Rules) {r : TNet} (h : m_i_NetOf N p0 = some r) :
  Calls Tryz.prog 40 [.agg [.string p0.Name, pv0_0].toArray].toArray w (PostG Φ w [] (fun Φ' Fs v => ∃ (sr_0_0 : Value) (Dr_0_0 : List Nat) (sr_0_1 : Value) (Dr_0_1 : List Nat), v = .agg [sr_0_0, sr_0_1].toArray ∧ Fs = [ob sr_0_0, Dr_0_0, ob sr_0_1, Dr_0_1] ∧ OSl OTAlpha 102 4 Φ' Dr_0_0 sr_0_0 r.Alphas ∧ OSl OTChain 43 2 Φ' Dr_0_1 sr_0_1 r.Chains)) := by
 refine enter Tryz.func40 rfl Tryz.ntmps40 rfl (St.start0 hΦ) ?_
 unfold m_i_NetOf at h
 refine WT.seq <| WT.region ?_
 refine ln (n_box (C := #[.string p0.Name, pv0_0]) rfl rfl) rfl (fun b_1 => ?_)
 refine ln (n_alloc (C := #[.slice none 0 0, .slice none 0 0]) Zr_27 rfl) rfl (fun b_2 => ?_)
 refine WL.nil <| WT.seq <| WT.seq <| WT.region <| lq (q_loadN Tn_30 rfl (fun w1 hw => hw.rgO (i := 1) rfl 0 2 [.string p0.Name, pv0_0] rfl) rfl) rfl ?_
 obtain ⟨x1, hx1, h⟩ := bind_some h
 refine lp (p_call Fun_49 rfl (fun w1 hw => m_i_DefOk_ok hw.fro N p0 ph0_0 hx1)) rfl <| lq (q_not rfl) rfl <| WL.nil ?_
 refine WT.cond rfl (fun c1 => ?_) (fun c1 => ?_)
 ·replace h := ite_t h c1
  refine WT.seq <| WT.region <| lq (q_build (vs := []) (C := #[.slice none 0 0, .slice none 0 0]) Pl_27 Zr_27 rfl (fill_nil)) rfl <| ls (s_store (i := 0) (vs := [.slice none 0 0, .slice none 0 0]) (C' := [.slice none 0 0, .slice none 0 0]) (O' := [(b_2, .cells #[.slice none 0 0, .slice none 0 0] 27 (0, 0)), (b_1, .cells #[.string p0.Name, pv0_0] 30 (0, 0))]) Sz_27 rfl rfl rfl rfl rfl rfl ⟨rfl, rfl, trivial⟩ rfl rfl) rfl ?_
  refine WL.nil ?_
  refine WT.ret Tryz.func40 (resOk.one (rv_cell Tn_27 rfl (fun w1 hw => hw.rgO (i := 0) rfl 0 2 [.slice none 0 0, .slice none 0 0] rfl) rfl)) (fun w1 hw => ?_)
  cases h
  replace hw := hw.addNil
  replace hw := hw.addNil
  replace hw := hw.addNil
  replace hw := hw.addNil
  refine postG_of_St (js := [3, 2, 1, 0]) hw rfl ⟨.slice none 0 0, [], .slice none 0 0, [], rfl, rfl, OSl.nil _ _ _ _, OSl.nil _ _ _ _⟩
 replace h := ite_f h c1
 refine WT.skip <| WT.seq <| WT.region <| lq (q_loadN Tn_30 rfl (fun w1 hw => hw.rgO (i := 1) rfl 0 2 [.string p0.Name, pv0_0] rfl) rfl) rfl ?_
 obtain ⟨x2, hx2, h⟩ := bind_some h
 refine lc (k_call (js := []) (R := []) Fun_50 rfl rfl (fun w1 hw ap hl => m_i_netIn_ok hw.fro N p0 ph0_0  hx2)) rfl (fun v1 Φ_1 F1 q1 => ?_)
 obtain ⟨ap1, fr1, v2, D1, v3, D2, rfl, rfl, h1, h2⟩ := q1
 refine ls (s_store (i := 0) (vs := [v2, v3]) (C' := [v2, v3]) (O' := [(b_2, .cells #[v2, v3] 27 (0, 0)), (b_1, .cells #[.string p0.Name, pv0_0] 30 (0, 0))]) Sz_27 rfl rfl rfl rfl rfl rfl ⟨h1.one, h2.one, trivial⟩ rfl rfl) rfl <| WL.nil ?_
 refine WT.ret Tryz.func40 (resOk.one (rv_cell Tn_27 rfl (fun w1 hw => hw.rgO (i := 0) rfl 0 2 [v2, v3] rfl) rfl)) (fun w1 hw => ?_)
 cases h
 refine postG_of_St (js := [0, 0, 0, 0]) hw rfl ⟨v2, D1, v3, D2, rfl, rfl, h1, h2⟩
theorem m_l_markText_ok {Φ : Hp} {w : World} (hΦ : In Φ w) (N : Nat) (p0 : Int)   {r : ByteArray} (h : m_l_markText N p0 = some r) :
  Calls Tryz.prog 160 [.int .i64 p0].toArray w (Post (.string r) w) := by
 refine enter Tryz.func160 rfl Tryz.ntmps160 rfl (St.start0 hΦ) ?_
 generalize hb0 : (⟨w, [], Φ⟩ : Base) = w0
 unfold m_l_markText at h
 refine WT.seq <| WT.region <| lq (q_assign rfl) rfl <| WL.nil <| WT.seq <| WT.seq <| WT.region <| lq (q_move rfl) rfl <| lq (q_leq rfl rfl) rfl <| WL.nil ?_
 refine WT.cond rfl (fun c1 => ?_) (fun c1 => ?_)
 ·replace h := ite_t h c1
  refine WT.seq <| WT.region <| lq (q_assign rfl) rfl <| WL.nil ?_
  refine WT.ret Tryz.func160 (resOk.one rfl) (fun w1 hw => ?_)
  subst hb0
  cases h
  exact post_of_St hw
 replace h := ite_f h c1
 refine WT.skip <| WT.seq <| WT.region <| lq (q_assign rfl) rfl <| WL.nil <| WT.seq <| WT.block <| WT.loop <| WT.mono (l' := [(0, .int .i64 p0), (3, .string (⟨#[]⟩ : ByteArray))]) (S' := St w0 Φ [] []) ⟨rfl, rfl, trivial⟩ (fun w1 hw => (hw.sel (js := []) rfl).selO (js := []) rfl) ?_
 refine loop_ind (σ := Hp × Int × ByteArray) (fun s => [(0, .int .i64 s.2.1), (3, .string s.2.2)]) (fun s => St w0 s.1 [] []) (fun m s => m_l_markText_l1 N m s.2.1 s.2.2 = some r) (fun s hm => none_ne (show (none : Option (ByteArray)) = some r from hm)) (fun n1 ih1 s hm => ?_) N (Φ, p0, (⟨#[]⟩ : ByteArray)) h
 obtain ⟨Φ_1, s1, s2⟩ := s
 have h : m_l_markText_l1 N (n1 + 1) s1 s2 = some r := hm
 show WT _ _ [(0, .int .i64 s1), (3, .string s2)] (St w0 Φ_1 [] [])
 unfold m_l_markText_l1 at h
 refine WT.seq <| WT.seq <| WT.region <| lq (q_move rfl) rfl <| lq (q_gtr rfl rfl) rfl <| WL.nil ?_
 refine WT.cond rfl (fun c2 => ?_) (fun c2 => ?_)
 ·replace h := ite_t h c2
  refine WT.skip <| WT.block <| WT.seq <| WT.region <| lq (q_move rfl) rfl <| lq (q_rem rfl rfl (by decide)) rfl <| lq (q_add rfl rfl) rfl <| lq (q_convI Ik_3 Ik_5 rfl) rfl ?_
  have rc1 : RC (RI .u8) 1 Φ_1 ([[]] : List (List Nat)) [.int .u8 (IntKind.u8.wrap (IntKind.i64.wrap (48 + (s1.tmod 10))))] ([(IntKind.u8.wrap (IntKind.i64.wrap (48 + (s1.tmod 10))))] : List Int) := RC.cons (c := [.int .u8 (IntKind.u8.wrap (IntKind.i64.wrap (48 + (s1.tmod 10))))]) (cells := []) ⟨rfl, rfl⟩ rfl (RC.nil _ _ _)
  refine le' (e_lit (vs := [(0, .int .u8 (IntKind.u8.wrap (IntKind.i64.wrap (48 + (s1.tmod 10)))))]) (C := #[.int .u8 (IntKind.u8.wrap (IntKind.i64.wrap (48 + (s1.tmod 10))))]) RI.lasts Sl_22 Zr_5 rfl rfl rfl rfl (fill_made MC_5_1 (fill_cons (cells := [.int .u8 0]) (c := [.int .u8 (IntKind.u8.wrap (IntKind.i64.wrap (48 + (s1.tmod 10))))]) (C' := [.int .u8 (IntKind.u8.wrap (IntKind.i64.wrap (48 + (s1.tmod 10))))]) rfl rfl rfl rfl rfl (fill_nil))) rfl rc1 rfl (by simpa using Kw.nil)) rfl (fun v1 Φ_2 D1 q1 => ?_)
  obtain ⟨fr1, h1⟩ := q1
  replace h1 : OSl (RI .u8) 5 1 Φ_2 [] v1 ([(IntKind.u8.wrap (IntKind.i64.wrap (48 + (s1.tmod 10))))] : List Int) := by simpa using h1
  refine lq (q_convB Sl_22 Ik_5 Str_9 rfl h1.rsl) rfl <| lq (q_move rfl) rfl ?_
  obtain ⟨z1, hz1, h⟩ := bind_some h
  refine lq (q_cat rfl rfl hz1) rfl <| lq (q_assign rfl) rfl <| WL.nil <| WT.region <| lq (q_move rfl) rfl <| lq (q_quo rfl rfl (by decide)) rfl <| lq (q_assign rfl) rfl <| WL.nil <| WT.inBlock ?_
  refine WT.inLoop (WT.mono (l' := [(0, .int .i64 (IntKind.i64.wrap (s1.tdiv 10))), (3, .string z1)]) (S' := St w0 Φ_2 [] []) ⟨rfl, rfl, trivial⟩ (fun w1 hw => (hw.sel (js := []) rfl).selO (js := []) rfl) ?_)
  exact ih1 (Φ_2, (IntKind.i64.wrap (s1.tdiv 10)), z1) h
 replace h := ite_f h c2
 refine WT.exit rfl <| WT.seq <| WT.region <| lq (q_move rfl) rfl ?_
 obtain ⟨z2, hz2, h⟩ := bind_some h
 refine lq (q_cat rfl rfl hz2) rfl <| lq (q_assign rfl) rfl <| WL.nil ?_
 refine WT.ret Tryz.func160 (resOk.one rfl) (fun w1 hw => ?_)
 subst hb0
 cases h
 exact post_of_St hw
theorem m_l_markArgS_ok {Φ : Hp} {w : World} (hΦ : In Φ w) (N : Nat) (p0 : (List TArg)) (p1 : Int) {pv0 : Value} (ph0 : OSl RTArg 126 5 Φ [] pv0 p0) (hB : [ob pv0].flatten.Nodup) (hlt : ∀ k ∈ [ob pv0].flatten, k < w.heap.size) {r : Int × (List TArg)} (h : m_l_markArgS N p0 p1 = some r) :
  Calls Tryz.prog 216 [pv0, .int .i64 p1].toArray w (PostG Φ w [ob pv0].flatten (fun Φ' Fs v => v = .int .i64 r.1 ∧ Fs = [ob pv0] ∧ OSl RTArg 126 5 Φ' [] pv0 r.2)) := by
 refine enter Tryz.func216 rfl Tryz.ntmps216 rfl (St.start hΦ [ob pv0] hB hlt) ?_
 generalize hb0 : (⟨w, [ob pv0].flatten, Φ⟩ : Base) = w0
 unfold m_l_markArgS at h
 refine WT.seq <| WT.region <| lq (q_assign rfl) rfl <| WL.nil <| WT.seq <| WT.seq <| WT.region <| lq (q_assign rfl) rfl <| WL.nil <| WT.block <| WT.loop <| WT.mono (l' := [(0, pv0), (1, .int .i64 p1), (5, .int .i64 0)]) (S' := St w0 Φ [] [ob pv0]) ⟨rfl, rfl, rfl, trivial⟩ (fun w1 hw => (hw.sel (js := [0]) rfl).selO (js := []) rfl) ?_
 refine loop_ind (σ := Hp × (List TArg) × Int × Int) (fun s => [(0, pv0), (1, .int .i64 s.2.2.1), (5, .int .i64 s.2.2.2)]) (fun s => St w0 s.1 [] [ob pv0]) (fun m s => m_l_markArgS_l1 N m s.2.1 s.2.2.1 s.2.2.2 = some r ∧ (OSl RTArg 126 5 s.1 [] pv0 s.2.1)) (fun s hm => none_ne (show (none : Option (Int × (List TArg))) = some r from hm.1)) (fun n1 ih1 s hm => ?_) N (Φ, p0, p1, 0) ⟨h, ph0⟩
 obtain ⟨Φ_1, s1, s2, s3⟩ := s
 obtain ⟨h, k1⟩ := hm
 replace h : m_l_markArgS_l1 N (n1 + 1) s1 s2 s3 = some r := h
 replace k1 : OSl RTArg 126 5 Φ_1 [] pv0 s1 := k1
 show WT _ _ [(0, pv0), (1, .int .i64 s2), (5, .int .i64 s3)] (St w0 Φ_1 [] [ob pv0])
 unfold m_l_markArgS_l1 at h
 refine WT.seq <| WT.seq <| WT.region <| lq (q_move rfl) rfl <| lq (q_move rfl) rfl <| lq (q_lenR Sl_112 rfl rfl k1.rsl) rfl <| lq (q_lss rfl rfl) rfl <| WL.nil ?_
 refine WT.cond rfl (fun c1 => ?_) (fun c1 => ?_)
 ·replace h := ite_t h c1
  refine WT.skip <| WT.seq <| WT.block <| WT.seq <| WT.region <| lq (q_move rfl) rfl <| lq (q_move rfl) rfl <| lq (q_move rfl) rfl ?_
  obtain ⟨x1, hx1, h⟩ := bind_some h
  obtain ⟨cs1, F1, h1, r1⟩ := k1.focusF RTArg.flat hx1
  obtain ⟨rfl, -⟩ := r1
  refine lq (q_indexAddrH Sl_112 rfl rfl h1 hx1) rfl <| lq (q_fieldAddr Fld_126_0 rfl) rfl ?_
  refine lu (u_setH (js := [0]) (Rr := []) (o := 0) (vs := [.int .i64 s2]) (cs' := [.int .i64 s2, .string x1.S, .int .i64 x1.V.K, .int .i64 x1.V.N, .string x1.V.S]) RTArg.lasts Sz_3 rfl rfl rfl rfl ⟨rfl, trivial⟩ rfl h1 rfl rfl (fun ap => (Dj.nil _))) rfl (fun Φ_2 D2 q1 => ?_)
  obtain ⟨⟨ap1, fr1⟩, h2⟩ := q1
  refine WL.nil <| WT.seq <| WT.region <| lq (q_move rfl) rfl <| lq (q_add rfl rfl) rfl <| lq (q_assign rfl) rfl <| WL.nil <| WT.seq <| WT.region <| lq (q_move rfl) rfl <| lq (q_move rfl) rfl <| lq (q_move rfl) rfl ?_
  obtain ⟨x2, hx2, h⟩ := bind_some h
  refine lp (p_call Fun_160 rfl (fun w1 hw => m_l_markText_ok hw.fro N (IntKind.i64.wrap (s2 + 1)) hx2)) rfl <| lq (q_indexAddrH Sl_112 rfl rfl h2 hx1) rfl <| lq (q_fieldAddr Fld_126_1 rfl) rfl ?_
  refine lu (u_setH (js := [0]) (Rr := []) (o := 1) (vs := [.string x2]) (cs' := [.int .i64 s2, .string x2, .int .i64 x1.V.K, .int .i64 x1.V.N, .string x1.V.S]) RTArg.lasts Sz_9 rfl rfl rfl rfl ⟨rfl, trivial⟩ rfl h2 rfl rfl (fun ap => (Dj.nil _))) rfl (fun Φ_3 D3 q2 => ?_)
  obtain ⟨⟨ap2, fr2⟩, h3⟩ := q2
  refine WL.nil <| WT.seq <| WT.region <| lq (q_move rfl) rfl <| lq (q_add rfl rfl) rfl <| lq (q_assign rfl) rfl <| WL.nil <| WT.seq <| WT.region <| lq (q_move rfl) rfl <| lq (q_move rfl) rfl <| lq (q_move rfl) rfl <| lq (q_indexAddrH Sl_112 rfl rfl h3 hx1) rfl <| lq (q_fieldAddr Fld_126_2 rfl) rfl <| lq (q_fieldAddr Fld_121_0 rfl) rfl ?_
  refine lu (u_setH (js := [0]) (Rr := []) (o := 2) (vs := [.int .i64 (IntKind.i64.wrap ((IntKind.i64.wrap (s2 + 1)) + 1))]) (cs' := [.int .i64 s2, .string x2, .int .i64 (IntKind.i64.wrap ((IntKind.i64.wrap (s2 + 1)) + 1)), .int .i64 x1.V.N, .string x1.V.S]) RTArg.lasts Sz_3 rfl rfl rfl rfl ⟨rfl, trivial⟩ rfl h3 rfl rfl (fun ap => (Dj.nil _))) rfl (fun Φ_4 D4 q3 => ?_)
  obtain ⟨⟨ap3, fr3⟩, h4⟩ := q3
  refine WL.nil <| WT.seq <| WT.region <| lq (q_move rfl) rfl <| lq (q_add rfl rfl) rfl <| lq (q_assign rfl) rfl <| WL.nil <| WT.seq <| WT.region <| lq (q_move rfl) rfl <| lq (q_move rfl) rfl <| lq (q_move rfl) rfl <| lq (q_indexAddrH Sl_112 rfl rfl h4 hx1) rfl <| lq (q_fieldAddr Fld_126_2 rfl) rfl <| lq (q_fieldAddr Fld_121_1 rfl) rfl ?_
  refine lu (u_setH (js := [0]) (Rr := []) (o := 3) (vs := [.int .i64 (IntKind.i64.wrap ((IntKind.i64.wrap ((IntKind.i64.wrap (s2 + 1)) + 1)) + 1))]) (cs' := [.int .i64 s2, .string x2, .int .i64 (IntKind.i64.wrap ((IntKind.i64.wrap (s2 + 1)) + 1)), .int .i64 (IntKind.i64.wrap ((IntKind.i64.wrap ((IntKind.i64.wrap (s2 + 1)) + 1)) + 1)), .string x1.V.S]) RTArg.lasts Sz_3 rfl rfl rfl rfl ⟨rfl, trivial⟩ rfl h4 rfl rfl (fun ap => (Dj.nil _))) rfl (fun Φ_5 D5 q4 => ?_)
  obtain ⟨⟨ap4, fr4⟩, h5⟩ := q4
  refine WL.nil <| WT.seq <| WT.region <| lq (q_move rfl) rfl <| lq (q_add rfl rfl) rfl <| lq (q_assign rfl) rfl <| WL.nil <| WT.seq <| WT.region <| lq (q_move rfl) rfl <| lq (q_move rfl) rfl <| lq (q_move rfl) rfl ?_
  obtain ⟨x3, hx3, h⟩ := bind_some h
  refine lp (p_call Fun_160 rfl (fun w1 hw => m_l_markText_ok hw.fro N (IntKind.i64.wrap ((IntKind.i64.wrap ((IntKind.i64.wrap ((IntKind.i64.wrap (s2 + 1)) + 1)) + 1)) + 1)) hx3)) rfl <| lq (q_indexAddrH Sl_112 rfl rfl h5 hx1) rfl <| lq (q_fieldAddr Fld_126_2 rfl) rfl <| lq (q_fieldAddr Fld_121_2 rfl) rfl ?_
  refine lu (u_setH (js := [0]) (Rr := []) (o := 4) (vs := [.string x3]) (cs' := [.int .i64 s2, .string x2, .int .i64 (IntKind.i64.wrap ((IntKind.i64.wrap (s2 + 1)) + 1)), .int .i64 (IntKind.i64.wrap ((IntKind.i64.wrap ((IntKind.i64.wrap (s2 + 1)) + 1)) + 1)), .string x3]) RTArg.lasts Sz_9 rfl rfl rfl rfl ⟨rfl, trivial⟩ rfl h5 rfl rfl (fun ap => (Dj.nil _))) rfl (fun Φ_6 D6 q5 => ?_)
  obtain ⟨⟨ap5, fr5⟩, h6⟩ := q5
  refine WL.nil <| WT.region <| lq (q_move rfl) rfl <| lq (q_add rfl rfl) rfl <| lq (q_assign rfl) rfl <| WL.nil <| WT.inBlock <| WT.region <| lq (q_move rfl) rfl <| lq (q_add rfl rfl) rfl <| lq (q_assign rfl) rfl <| WL.nil ?_
  have h7 := h6.unfocusF RTArg.flat (cs := [.int .i64 s2, .string x2, .int .i64 (IntKind.i64.wrap ((IntKind.i64.wrap (s2 + 1)) + 1)), .int .i64 (IntKind.i64.wrap ((IntKind.i64.wrap ((IntKind.i64.wrap (s2 + 1)) + 1)) + 1)), .string x3]) (x' := (⟨s2, x2, (⟨IntKind.i64.wrap ((IntKind.i64.wrap (s2 + 1)) + 1), IntKind.i64.wrap ((IntKind.i64.wrap ((IntKind.i64.wrap (s2 + 1)) + 1)) + 1), x3⟩ : TVal)⟩ : TArg)) ⟨rfl, rfl⟩
  refine WT.inLoop (WT.mono (l' := [(0, pv0), (1, .int .i64 (IntKind.i64.wrap ((IntKind.i64.wrap ((IntKind.i64.wrap ((IntKind.i64.wrap ((IntKind.i64.wrap (s2 + 1)) + 1)) + 1)) + 1)) + 1))), (5, .int .i64 (IntKind.i64.wrap (s3 + 1)))]) (S' := St w0 Φ_6 [] [ob pv0]) ⟨rfl, rfl, rfl, trivial⟩ (fun w1 hw => (hw.sel (js := [0]) rfl).selO (js := []) rfl) ?_)
  exact ih1 (Φ_6, (s1.set s3.toNat (⟨s2, x2, (⟨IntKind.i64.wrap ((IntKind.i64.wrap (s2 + 1)) + 1), IntKind.i64.wrap ((IntKind.i64.wrap ((IntKind.i64.wrap (s2 + 1)) + 1)) + 1), x3⟩ : TVal)⟩ : TArg)), IntKind.i64.wrap ((IntKind.i64.wrap ((IntKind.i64.wrap ((IntKind.i64.wrap ((IntKind.i64.wrap (s2 + 1)) + 1)) + 1)) + 1)) + 1), IntKind.i64.wrap (s3 + 1)) ⟨h, h7⟩
 replace h := ite_f h c1
 refine WT.exit rfl <| WT.seq <| WT.region <| lq (q_move rfl) rfl <| lq (q_assign rfl) rfl <| WL.nil ?_
 refine WT.ret Tryz.func216 (resOk.one rfl) (fun w1 hw => ?_)
 subst hb0
 cases h
 refine postG_of_St (js := [0]) hw rfl ⟨rfl, rfl, k1⟩
theorem m_l_markPatS_ok {Φ : Hp} {w : World} (hΦ : In Φ w) (N : Nat) (p0 : (List TPat)) (p1 : Int) {pv0 : Value} {pD0 : List Nat} (ph0 : OSl OTPat 114 3 Φ pD0 pv0 p0) (hB : [ob pv0, pD0].flatten.Nodup) (hlt : ∀ k ∈ [ob pv0, pD0].flatten, k < w.heap.size) {r : Int × (List TPat)} (h : m_l_markPatS N p0 p1 = some r) :
  Calls Tryz.prog 161 [pv0, .int .i64 p1].toArray w (PostG Φ w [ob pv0, pD0].flatten (fun Φ' Fs v => ∃ (Do_0_0 : List Nat), v = .int .i64 r.1 ∧ Fs = [ob pv0, Do_0_0] ∧ OSl OTPat 114 3 Φ' Do_0_0 pv0 r.2)) := by
 refine enter Tryz.func161 rfl Tryz.ntmps161 rfl (St.start hΦ [ob pv0, pD0] hB hlt) ?_
 generalize hb0 : (⟨w, [ob pv0, pD0].flatten, Φ⟩ : Base) = w0
 unfold m_l_markPatS at h
 refine WT.seq <| WT.region <| lq (q_assign rfl) rfl <| WL.nil <| WT.seq <| WT.seq <| WT.region <| lq (q_assign rfl) rfl <| WL.nil <| WT.block <| WT.loop <| WT.mono (l' := [(0, pv0), (1, .int .i64 p1), (5, .int .i64 0)]) (S' := St w0 Φ [] [ob pv0, pD0]) ⟨rfl, rfl, rfl, trivial⟩ (fun w1 hw => (hw.sel (js := [0, 0]) rfl).selO (js := []) rfl) ?_
 refine loop_ind (σ := Hp × (List TPat) × List Nat × Int × Int) (fun s => [(0, pv0), (1, .int .i64 s.2.2.2.1), (5, .int .i64 s.2.2.2.2)]) (fun s => St w0 s.1 [] [ob pv0, s.2.2.1]) (fun m s => m_l_markPatS_l1 N m s.2.1 s.2.2.2.1 s.2.2.2.2 = some r ∧ (OSl OTPat 114 3 s.1 s.2.2.1 pv0 s.2.1)) (fun s hm => none_ne (show (none : Option (Int × (List TPat))) = some r from hm.1)) (fun n1 ih1 s hm => ?_) N (Φ, p0, pD0, p1, 0) ⟨h, ph0⟩
 obtain ⟨Φ_1, s1, D1, s2, s3⟩ := s
 obtain ⟨h, k1⟩ := hm
 replace h : m_l_markPatS_l1 N (n1 + 1) s1 s2 s3 = some r := h
 replace k1 : OSl OTPat 114 3 Φ_1 D1 pv0 s1 := k1
 show WT _ _ [(0, pv0), (1, .int .i64 s2), (5, .int .i64 s3)] (St w0 Φ_1 [] [ob pv0, D1])
 unfold m_l_markPatS_l1 at h
 refine WT.seq <| WT.seq <| WT.region <| lq (q_move rfl) rfl <| lq (q_move rfl) rfl <| lq (q_lenR Sl_45 rfl rfl (k1.rslG OTPat.gives)) rfl <| lq (q_lss rfl rfl) rfl <| WL.nil ?_
 refine WT.cond rfl (fun c1 => ?_) (fun c1 => ?_)
 ·replace h := ite_t h c1
  refine WT.skip <| WT.seq <| WT.block <| WT.seq <| WT.region <| lq (q_move rfl) rfl <| lq (q_move rfl) rfl <| lq (q_move rfl) rfl ?_
  obtain ⟨x1, hx1, h⟩ := bind_some h
  refine lp (p_call Fun_160 rfl (fun w1 hw => m_l_markText_ok hw.fro N s2 hx1)) rfl ?_
  obtain ⟨x2, hx2, h⟩ := bind_some h
  obtain ⟨cs1, F1, D2, h1, r1, kf1, sp1⟩ := k1.focus hx2
  obtain ⟨v1, rfl, rfl, h2⟩ := r1
  refine WL.conv (S' := St w0 Φ_1 [] [ob v1, D2, ob pv0]) (fun w1 hw => hw.re (js := [1]) (Bs := [ob v1, D2]) rfl (by simpa [List.append_assoc] using sp1)) <| lq (q_indexAddrH Sl_45 rfl rfl h1 hx2) rfl <| lq (q_fieldAddr Fld_114_0 rfl) rfl ?_
  refine lu (u_setH (js := [2]) (Rr := [ob v1, D2]) (o := 0) (vs := [.string x1]) (cs' := [.string x1, v1, .bool x2.Not]) OTPat.lasts Sz_9 rfl rfl rfl rfl ⟨rfl, trivial⟩ rfl h1 rfl rfl (fun ap => (ap.r (i := 1) rfl))) rfl (fun Φ_2 D3 q1 => ?_)
  obtain ⟨⟨ap1, fr1⟩, h3⟩ := q1
  replace h2 := h2.frame RTArg.lasts fr1 (ap1.r (i := 0) rfl) (Dj.nil _)
  refine WL.nil <| WT.seq <| WT.region <| lq (q_move rfl) rfl <| lq (q_add rfl rfl) rfl <| lq (q_assign rfl) rfl <| WL.nil <| WT.seq <| WT.region <| lq (q_move rfl) rfl <| lq (q_move rfl) rfl <| lq (q_indexAddrH Sl_45 rfl rfl h3 hx2) rfl <| lq (q_fieldAddr Fld_114_1 rfl) rfl <| lq (q_load1 T1_112 rfl (fun w1 hw => (h3.rg.of_eq 1 1 rfl rfl : rg _ _ _ [v1]).rangeAt hw.fro)) rfl <| lq (q_move rfl) rfl ?_
  obtain ⟨x3, hx3, h⟩ := bind_some h
  refine lc (k_call (js := [1]) (R := [ob pv0, D2]) Fun_216 rfl rfl (fun w1 hw ap hl => m_l_markArgS_ok hw.fro N x2.Args (IntKind.i64.wrap (s2 + 1)) h2 ap.nd hl hx3)) rfl (fun v2 Φ_3 F2 q2 => ?_)
  obtain ⟨ap2, fr2, rfl, rfl, h4⟩ := q2
  replace h3 := h3.frame OTPat.lasts fr2 (ap2.r (i := 0) rfl) (ap2.r (i := 1) rfl)
  refine lq (q_assign rfl) rfl <| WL.nil <| WT.seq <| WT.region <| lq (q_move rfl) rfl <| lq (q_move rfl) rfl <| lq (q_move rfl) rfl <| lq (q_rem rfl rfl (by decide)) rfl <| lq (q_eql rfl rfl) rfl <| lq (q_indexAddrH Sl_45 rfl rfl h3 hx2) rfl <| lq (q_fieldAddr Fld_114_2 rfl) rfl ?_
  refine lu (u_setH (js := [1]) (Rr := [ob v1, D2]) (o := 2) (vs := [.bool (decide ((x3.1.tmod 3) = 0))]) (cs' := [.string x1, v1, .bool (decide ((x3.1.tmod 3) = 0))]) OTPat.lasts Sz_4 rfl rfl rfl rfl ⟨rfl, trivial⟩ rfl h3 rfl rfl (fun ap => (ap.r (i := 1) rfl))) rfl (fun Φ_4 D4 q3 => ?_)
  obtain ⟨⟨ap3, fr3⟩, h5⟩ := q3
  replace h4 := h4.frame RTArg.lasts fr3 (ap3.r (i := 0) rfl) (Dj.nil _)
  refine WL.nil <| WT.region <| lq (q_move rfl) rfl <| lq (q_add rfl rfl) rfl <| lq (q_assign rfl) rfl <| WL.nil <| WT.inBlock <| WT.region <| lq (q_move rfl) rfl <| lq (q_add rfl rfl) rfl <| lq (q_assign rfl) rfl <| WL.nil ?_
  have r2 : OTPat Φ_4 _ [.string x1, v1, .bool (decide ((x3.1.tmod 3) = 0))] (⟨x1, x3.2, decide ((x3.1.tmod 3) = 0)⟩ : TPat) := ⟨v1, rfl, rfl, h4⟩
  obtain ⟨D5, h6, sp2⟩ := h5.unfocus r2 (OTPat.knows _ _ _ _ r2)
  refine WT.conv (S' := St w0 Φ_4 [] [D5, ob pv0]) (fun w1 hw => hw.merge (js := [1, 1]) rfl (by simpa [List.append_assoc, ob_nil] using sp2)) ?_
  refine WT.inLoop (WT.mono (l' := [(0, pv0), (1, .int .i64 (IntKind.i64.wrap (x3.1 + 1))), (5, .int .i64 (IntKind.i64.wrap (s3 + 1)))]) (S' := St w0 Φ_4 [] [ob pv0, D5]) ⟨rfl, rfl, rfl, trivial⟩ (fun w1 hw => (hw.sel (js := [1, 0]) rfl).selO (js := []) rfl) ?_)
  exact ih1 (Φ_4, (s1.set s3.toNat (⟨x1, x3.2, decide ((x3.1.tmod 3) = 0)⟩ : TPat)), D5, IntKind.i64.wrap (x3.1 + 1), IntKind.i64.wrap (s3 + 1)) ⟨h, h6⟩
 replace h := ite_f h c1
 refine WT.exit rfl <| WT.seq <| WT.region <| lq (q_move rfl) rfl <| lq (q_assign rfl) rfl <| WL.nil ?_
 refine WT.ret Tryz.func161 (resOk.one rfl) (fun w1 hw => ?_)
 subst hb0
 cases h
 refine postG_of_St (js := [0, 0]) hw rfl ⟨D1, rfl, rfl, k1⟩
theorem m_l_markCondS_ok {Φ : Hp} {w : World} (hΦ : In Φ w) (N : Nat) (p0 : (List TCond)) (p1 : Int) {pv0 : Value} (ph0 : OSl RTCond 128 11 Φ [] pv0 p0) (hB : [ob pv0].flatten.Nodup) (hlt : ∀ k ∈ [ob pv0].flatten, k < w.heap.size) {r : Int × (List TCond)} (h : m_l_markCondS N p0 p1 = some r) :
  Calls Tryz.prog 162 [pv0, .int .i64 p1].toArray w (PostG Φ w [ob pv0].flatten (fun Φ' Fs v => v = .int .i64 r.1 ∧ Fs = [ob pv0] ∧ OSl RTCond 128 11 Φ' [] pv0 r.2)) := by
 refine enter Tryz.func162 rfl Tryz.ntmps162 rfl (St.start hΦ [ob pv0] hB hlt) ?_
 generalize hb0 : (⟨w, [ob pv0].flatten, Φ⟩ : Base) = w0
 unfold m_l_markCondS at h
 refine WT.seq <| WT.region <| lq (q_assign rfl) rfl <| WL.nil <| WT.seq <| WT.seq <| WT.region <| lq (q_assign rfl) rfl <| WL.nil <| WT.block <| WT.loop <| WT.mono (l' := [(0, pv0), (1, .int .i64 p1), (5, .int .i64 0)]) (S' := St w0 Φ [] [ob pv0]) ⟨rfl, rfl, rfl, trivial⟩ (fun w1 hw => (hw.sel (js := [0]) rfl).selO (js := []) rfl) ?_
 refine loop_ind (σ := Hp × (List TCond) × Int × Int) (fun s => [(0, pv0), (1, .int .i64 s.2.2.1), (5, .int .i64 s.2.2.2)]) (fun s => St w0 s.1 [] [ob pv0]) (fun m s => m_l_markCondS_l1 N m s.2.1 s.2.2.1 s.2.2.2 = some r ∧ (OSl RTCond 128 11 s.1 [] pv0 s.2.1)) (fun s hm => none_ne (show (none : Option (Int × (List TCond))) = some r from hm.1)) (fun n1 ih1 s hm => ?_) N (Φ, p0, p1, 0) ⟨h, ph0⟩
 obtain ⟨Φ_1, s1, s2, s3⟩ := s
 obtain ⟨h, k1⟩ := hm
 replace h : m_l_markCondS_l1 N (n1 + 1) s1 s2 s3 = some r := h
 replace k1 : OSl RTCond 128 11 Φ_1 [] pv0 s1 := k1
 show WT _ _ [(0, pv0), (1, .int .i64 s2), (5, .int .i64 s3)] (St w0 Φ_1 [] [ob pv0])
 unfold m_l_markCondS_l1 at h
 refine WT.seq <| WT.seq <| WT.region <| lq (q_move rfl) rfl <| lq (q_move rfl) rfl <| lq (q_lenR Sl_46 rfl rfl k1.rsl) rfl <| lq (q_lss rfl rfl) rfl <| WL.nil ?_
 refine WT.cond rfl (fun c1 => ?_) (fun c1 => ?_)
 ·replace h := ite_t h c1
  refine WT.skip <| WT.seq <| WT.block <| WT.seq <| WT.region <| lq (q_move rfl) rfl <| lq (q_move rfl) rfl <| lq (q_move rfl) rfl ?_
  obtain ⟨x1, hx1, h⟩ := bind_some h
  obtain ⟨cs1, F1, h1, r1⟩ := k1.focusF RTCond.flat hx1
  obtain ⟨rfl, -⟩ := r1
  refine lq (q_indexAddrH Sl_46 rfl rfl h1 hx1) rfl <| lq (q_fieldAddr Fld_128_0 rfl) rfl ?_
  refine lu (u_setH (js := [0]) (Rr := []) (o := 0) (vs := [.int .i64 s2]) (cs' := [.int .i64 s2, .int .i64 x1.L.K, .string x1.L.S, .int .i64 x1.L.V.K, .int .i64 x1.L.V.N, .string x1.L.V.S, .int .i64 x1.R.K, .string x1.R.S, .int .i64 x1.R.V.K, .int .i64 x1.R.V.N, .string x1.R.V.S]) RTCond.lasts Sz_3 rfl rfl rfl rfl ⟨rfl, trivial⟩ rfl h1 rfl rfl (fun ap => (Dj.nil _))) rfl (fun Φ_2 D2 q1 => ?_)
  obtain ⟨⟨ap1, fr1⟩, h2⟩ := q1
  refine WL.nil <| WT.seq <| WT.region <| lq (q_move rfl) rfl <| lq (q_add rfl rfl) rfl <| lq (q_assign rfl) rfl <| WL.nil <| WT.seq <| WT.region <| lq (q_move rfl) rfl <| lq (q_move rfl) rfl <| lq (q_move rfl) rfl <| lq (q_indexAddrH Sl_46 rfl rfl h2 hx1) rfl <| lq (q_fieldAddr Fld_128_1 rfl) rfl <| lq (q_fieldAddr Fld_126_0 rfl) rfl ?_
  refine lu (u_setH (js := [0]) (Rr := []) (o := 1) (vs := [.int .i64 (IntKind.i64.wrap (s2 + 1))]) (cs' := [.int .i64 s2, .int .i64 (IntKind.i64.wrap (s2 + 1)), .string x1.L.S, .int .i64 x1.L.V.K, .int .i64 x1.L.V.N, .string x1.L.V.S, .int .i64 x1.R.K, .string x1.R.S, .int .i64 x1.R.V.K, .int .i64 x1.R.V.N, .string x1.R.V.S]) RTCond.lasts Sz_3 rfl rfl rfl rfl ⟨rfl, trivial⟩ rfl h2 rfl rfl (fun ap => (Dj.nil _))) rfl (fun Φ_3 D3 q2 => ?_)
  obtain ⟨⟨ap2, fr2⟩, h3⟩ := q2
  refine WL.nil <| WT.seq <| WT.region <| lq (q_move rfl) rfl <| lq (q_add rfl rfl) rfl <| lq (q_assign rfl) rfl <| WL.nil <| WT.seq <| WT.region <| lq (q_move rfl) rfl <| lq (q_move rfl) rfl <| lq (q_move rfl) rfl ?_
  obtain ⟨x2, hx2, h⟩ := bind_some h
  refine lp (p_call Fun_160 rfl (fun w1 hw => m_l_markText_ok hw.fro N (IntKind.i64.wrap ((IntKind.i64.wrap (s2 + 1)) + 1)) hx2)) rfl <| lq (q_indexAddrH Sl_46 rfl rfl h3 hx1) rfl <| lq (q_fieldAddr Fld_128_1 rfl) rfl <| lq (q_fieldAddr Fld_126_1 rfl) rfl ?_
  refine lu (u_setH (js := [0]) (Rr := []) (o := 2) (vs := [.string x2]) (cs' := [.int .i64 s2, .int .i64 (IntKind.i64.wrap (s2 + 1)), .string x2, .int .i64 x1.L.V.K, .int .i64 x1.L.V.N, .string x1.L.V.S, .int .i64 x1.R.K, .string x1.R.S, .int .i64 x1.R.V.K, .int .i64 x1.R.V.N, .string x1.R.V.S]) RTCond.lasts Sz_9 rfl rfl rfl rfl ⟨rfl, trivial⟩ rfl h3 rfl rfl (fun ap => (Dj.nil _))) rfl (fun Φ_4 D4 q3 => ?_)
  obtain ⟨⟨ap3, fr3⟩, h4⟩ := q3
  refine WL.nil <| WT.seq <| WT.region <| lq (q_move rfl) rfl <| lq (q_add rfl rfl) rfl <| lq (q_assign rfl) rfl <| WL.nil <| WT.seq <| WT.region <| lq (q_move rfl) rfl <| lq (q_move rfl) rfl <| lq (q_move rfl) rfl <| lq (q_indexAddrH Sl_46 rfl rfl h4 hx1) rfl <| lq (q_fieldAddr Fld_128_1 rfl) rfl <| lq (q_fieldAddr Fld_126_2 rfl) rfl <| lq (q_fieldAddr Fld_121_0 rfl) rfl ?_
  refine lu (u_setH (js := [0]) (Rr := []) (o := 3) (vs := [.int .i64 (IntKind.i64.wrap ((IntKind.i64.wrap ((IntKind.i64.wrap (s2 + 1)) + 1)) + 1))]) (cs' := [.int .i64 s2, .int .i64 (IntKind.i64.wrap (s2 + 1)), .string x2, .int .i64 (IntKind.i64.wrap ((IntKind.i64.wrap ((IntKind.i64.wrap (s2 + 1)) + 1)) + 1)), .int .i64 x1.L.V.N, .string x1.L.V.S, .int .i64 x1.R.K, .string x1.R.S, .int .i64 x1.R.V.K, .int .i64 x1.R.V.N, .string x1.R.V.S]) RTCond.lasts Sz_3 rfl rfl rfl rfl ⟨rfl, trivial⟩ rfl h4 rfl rfl (fun ap => (Dj.nil _))) rfl (fun Φ_5 D5 q4 => ?_)
  obtain ⟨⟨ap4, fr4⟩, h5⟩ := q4
  refine WL.nil <| WT.seq <| WT.region <| lq (q_move rfl) rfl <| lq (q_add rfl rfl) rfl <| lq (q_assign rfl) rfl <| WL.nil <| WT.seq <| WT.region <| lq (q_move rfl) rfl <| lq (q_move rfl) rfl <| lq (q_move rfl) rfl <| lq (q_indexAddrH Sl_46 rfl rfl h5 hx1) rfl <| lq (q_fieldAddr Fld_128_1 rfl) rfl <| lq (q_fieldAddr Fld_126_2 rfl) rfl <| lq (q_fieldAddr Fld_121_1 rfl) rfl ?_
  refine lu (u_setH (js := [0]) (Rr := []) (o := 4) (vs := [.int .i64 (IntKind.i64.wrap ((IntKind.i64.wrap ((IntKind.i64.wrap ((IntKind.i64.wrap (s2 + 1)) + 1)) + 1)) + 1))]) (cs' := [.int .i64 s2, .int .i64 (IntKind.i64.wrap (s2 + 1)), .string x2, .int .i64 (IntKind.i64.wrap ((IntKind.i64.wrap ((IntKind.i64.wrap (s2 + 1)) + 1)) + 1)), .int .i64 (IntKind.i64.wrap ((IntKind.i64.wrap ((IntKind.i64.wrap ((IntKind.i64.wrap (s2 + 1)) + 1)) + 1)) + 1)), .string x1.L.V.S, .int .i64 x1.R.K, .string x1.R.S, .int .i64 x1.R.V.K, .int .i64 x1.R.V.N, .string x1.R.V.S]) RTCond.lasts Sz_3 rfl rfl rfl rfl ⟨rfl, trivial⟩ rfl h5 rfl rfl (fun ap => (Dj.nil _))) rfl (fun Φ_6 D6 q5 => ?_)
  obtain ⟨⟨ap5, fr5⟩, h6⟩ := q5
  refine WL.nil <| WT.seq <| WT.region <| lq (q_move rfl) rfl <| lq (q_add rfl rfl) rfl <| lq (q_assign rfl) rfl <| WL.nil <| WT.seq <| WT.region <| lq (q_move rfl) rfl <| lq (q_move rfl) rfl <| lq (q_move rfl) rfl ?_
  obtain ⟨x3, hx3, h⟩ := bind_some h
  refine lp (p_call Fun_160 rfl (fun w1 hw => m_l_markText_ok hw.fro N (IntKind.i64.wrap ((IntKind.i64.wrap ((IntKind.i64.wrap ((IntKind.i64.wrap ((IntKind.i64.wrap (s2 + 1)) + 1)) + 1)) + 1)) + 1)) hx3)) rfl <| lq (q_indexAddrH Sl_46 rfl rfl h6 hx1) rfl <| lq (q_fieldAddr Fld_128_1 rfl) rfl <| lq (q_fieldAddr Fld_126_2 rfl) rfl <| lq (q_fieldAddr Fld_121_2 rfl) rfl ?_
  refine lu (u_setH (js := [0]) (Rr := []) (o := 5) (vs := [.string x3]) (cs' := [.int .i64 s2, .int .i64 (IntKind.i64.wrap (s2 + 1)), .string x2, .int .i64 (IntKind.i64.wrap ((IntKind.i64.wrap ((IntKind.i64.wrap (s2 + 1)) + 1)) + 1)), .int .i64 (IntKind.i64.wrap ((IntKind.i64.wrap ((IntKind.i64.wrap ((IntKind.i64.wrap (s2 + 1)) + 1)) + 1)) + 1)), .string x3, .int .i64 x1.R.K, .string x1.R.S, .int .i64 x1.R.V.K, .int .i64 x1.R.V.N, .string x1.R.V.S]) RTCond.lasts Sz_9 rfl rfl rfl rfl ⟨rfl, trivial⟩ rfl h6 rfl rfl (fun ap => (Dj.nil _))) rfl (fun Φ_7 D7 q6 => ?_)
  obtain ⟨⟨ap6, fr6⟩, h7⟩ := q6
  refine WL.nil <| WT.seq <| WT.region <| lq (q_move rfl) rfl <| lq (q_add rfl rfl) rfl <| lq (q_assign rfl) rfl <| WL.nil <| WT.seq <| WT.region <| lq (q_move rfl) rfl <| lq (q_move rfl) rfl <| lq (q_move rfl) rfl <| lq (q_indexAddrH Sl_46 rfl rfl h7 hx1) rfl <| lq (q_fieldAddr Fld_128_2 rfl) rfl <| lq (q_fieldAddr Fld_126_0 rfl) rfl ?_
  refine lu (u_setH (js := [0]) (Rr := []) (o := 6) (vs := [.int .i64 (IntKind.i64.wrap ((IntKind.i64.wrap ((IntKind.i64.wrap ((IntKind.i64.wrap ((IntKind.i64.wrap ((IntKind.i64.wrap (s2 + 1)) + 1)) + 1)) + 1)) + 1)) + 1))]) (cs' := [.int .i64 s2, .int .i64 (IntKind.i64.wrap (s2 + 1)), .string x2, .int .i64 (IntKind.i64.wrap ((IntKind.i64.wrap ((IntKind.i64.wrap (s2 + 1)) + 1)) + 1)), .int .i64 (IntKind.i64.wrap ((IntKind.i64.wrap ((IntKind.i64.wrap ((IntKind.i64.wrap (s2 + 1)) + 1)) + 1)) + 1)), .string x3, .int .i64 (IntKind.i64.wrap ((IntKind.i64.wrap ((IntKind.i64.wrap ((IntKind.i64.wrap ((IntKind.i64.wrap ((IntKind.i64.wrap (s2 + 1)) + 1)) + 1)) + 1)) + 1)) + 1)), .string x1.R.S, .int .i64 x1.R.V.K, .int .i64 x1.R.V.N, .string x1.R.V.S]) RTCond.lasts Sz_3 rfl rfl rfl rfl ⟨rfl, trivial⟩ rfl h7 rfl rfl (fun ap => (Dj.nil _))) rfl (fun Φ_8 D8 q7 => ?_)
  obtain ⟨⟨ap7, fr7⟩, h8⟩ := q7
  refine WL.nil <| WT.seq <| WT.region <| lq (q_move rfl) rfl <| lq (q_add rfl rfl) rfl <| lq (q_assign rfl) rfl <| WL.nil <| WT.seq <| WT.region <| lq (q_move rfl) rfl <| lq (q_move rfl) rfl <| lq (q_move rfl) rfl ?_
  obtain ⟨x4, hx4, h⟩ := bind_some h
  refine lp (p_call Fun_160 rfl (fun w1 hw => m_l_markText_ok hw.fro N (IntKind.i64.wrap ((IntKind.i64.wrap ((IntKind.i64.wrap ((IntKind.i64.wrap ((IntKind.i64.wrap ((IntKind.i64.wrap ((IntKind.i64.wrap (s2 + 1)) + 1)) + 1)) + 1)) + 1)) + 1)) + 1)) hx4)) rfl <| lq (q_indexAddrH Sl_46 rfl rfl h8 hx1) rfl <| lq (q_fieldAddr Fld_128_2 rfl) rfl <| lq (q_fieldAddr Fld_126_1 rfl) rfl ?_
  refine lu (u_setH (js := [0]) (Rr := []) (o := 7) (vs := [.string x4]) (cs' := [.int .i64 s2, .int .i64 (IntKind.i64.wrap (s2 + 1)), .string x2, .int .i64 (IntKind.i64.wrap ((IntKind.i64.wrap ((IntKind.i64.wrap (s2 + 1)) + 1)) + 1)), .int .i64 (IntKind.i64.wrap ((IntKind.i64.wrap ((IntKind.i64.wrap ((IntKind.i64.wrap (s2 + 1)) + 1)) + 1)) + 1)), .string x3, .int .i64 (IntKind.i64.wrap ((IntKind.i64.wrap ((IntKind.i64.wrap ((IntKind.i64.wrap ((IntKind.i64.wrap ((IntKind.i64.wrap (s2 + 1)) + 1)) + 1)) + 1)) + 1)) + 1)), .string x4, .int .i64 x1.R.V.K, .int .i64 x1.R.V.N, .string x1.R.V.S]) RTCond.lasts Sz_9 rfl rfl rfl rfl ⟨rfl, trivial⟩ rfl h8 rfl rfl (fun ap => (Dj.nil _))) rfl (fun Φ_9 D9 q8 => ?_)
  obtain ⟨⟨ap8, fr8⟩, h9⟩ := q8
  refine WL.nil <| WT.seq <| WT.region <| lq (q_move rfl) rfl <| lq (q_add rfl rfl) rfl <| lq (q_assign rfl) rfl <| WL.nil <| WT.seq <| WT.region <| lq (q_move rfl) rfl <| lq (q_move rfl) rfl <| lq (q_move rfl) rfl <| lq (q_indexAddrH Sl_46 rfl rfl h9 hx1) rfl <| lq (q_fieldAddr Fld_128_2 rfl) rfl <| lq (q_fieldAddr Fld_126_2 rfl) rfl <| lq (q_fieldAddr Fld_121_0 rfl) rfl ?_
  refine lu (u_setH (js := [0]) (Rr := []) (o := 8) (vs := [.int .i64 (IntKind.i64.wrap ((IntKind.i64.wrap ((IntKind.i64.wrap ((IntKind.i64.wrap ((IntKind.i64.wrap ((IntKind.i64.wrap ((IntKind.i64.wrap ((IntKind.i64.wrap (s2 + 1)) + 1)) + 1)) + 1)) + 1)) + 1)) + 1)) + 1))]) (cs' := [.int .i64 s2, .int .i64 (IntKind.i64.wrap (s2 + 1)), .string x2, .int .i64 (IntKind.i64.wrap ((IntKind.i64.wrap ((IntKind.i64.wrap (s2 + 1)) + 1)) + 1)), .int .i64 (IntKind.i64.wrap ((IntKind.i64.wrap ((IntKind.i64.wrap ((IntKind.i64.wrap (s2 + 1)) + 1)) + 1)) + 1)), .string x3, .int .i64 (IntKind.i64.wrap ((IntKind.i64.wrap ((IntKind.i64.wrap ((IntKind.i64.wrap ((IntKind.i64.wrap ((IntKind.i64.wrap (s2 + 1)) + 1)) + 1)) + 1)) + 1)) + 1)), .string x4, .int .i64 (IntKind.i64.wrap ((IntKind.i64.wrap ((IntKind.i64.wrap ((IntKind.i64.wrap ((IntKind.i64.wrap ((IntKind.i64.wrap ((IntKind.i64.wrap ((IntKind.i64.wrap (s2 + 1)) + 1)) + 1)) + 1)) + 1)) + 1)) + 1)) + 1)), .int .i64 x1.R.V.N, .string x1.R.V.S]) RTCond.lasts Sz_3 rfl rfl rfl rfl ⟨rfl, trivial⟩ rfl h9 rfl rfl (fun ap => (Dj.nil _))) rfl (fun Φ_10 D10 q9 => ?_)
  obtain ⟨⟨ap9, fr9⟩, h10⟩ := q9
  refine WL.nil <| WT.seq <| WT.region <| lq (q_move rfl) rfl <| lq (q_add rfl rfl) rfl <| lq (q_assign rfl) rfl <| WL.nil <| WT.seq <| WT.region <| lq (q_move rfl) rfl <| lq (q_move rfl) rfl <| lq (q_move rfl) rfl <| lq (q_indexAddrH Sl_46 rfl rfl h10 hx1) rfl <| lq (q_fieldAddr Fld_128_2 rfl) rfl <| lq (q_fieldAddr Fld_126_2 rfl) rfl <| lq (q_fieldAddr Fld_121_1 rfl) rfl ?_
  refine lu (u_setH (js := [0]) (Rr := []) (o := 9) (vs := [.int .i64 (IntKind.i64.wrap ((IntKind.i64.wrap ((IntKind.i64.wrap ((IntKind.i64.wrap ((IntKind.i64.wrap ((IntKind.i64.wrap ((IntKind.i64.wrap ((IntKind.i64.wrap ((IntKind.i64.wrap (s2 + 1)) + 1)) + 1)) + 1)) + 1)) + 1)) + 1)) + 1)) + 1))]) (cs' := [.int .i64 s2, .int .i64 (IntKind.i64.wrap (s2 + 1)), .string x2, .int .i64 (IntKind.i64.wrap ((IntKind.i64.wrap ((IntKind.i64.wrap (s2 + 1)) + 1)) + 1)), .int .i64 (IntKind.i64.wrap ((IntKind.i64.wrap ((IntKind.i64.wrap ((IntKind.i64.wrap (s2 + 1)) + 1)) + 1)) + 1)), .string x3, .int .i64 (IntKind.i64.wrap ((IntKind.i64.wrap ((IntKind.i64.wrap ((IntKind.i64.wrap ((IntKind.i64.wrap ((IntKind.i64.wrap (s2 + 1)) + 1)) + 1)) + 1)) + 1)) + 1)), .string x4, .int .i64 (IntKind.i64.wrap ((IntKind.i64.wrap ((IntKind.i64.wrap ((IntKind.i64.wrap ((IntKind.i64.wrap ((IntKind.i64.wrap ((IntKind.i64.wrap ((IntKind.i64.wrap (s2 + 1)) + 1)) + 1)) + 1)) + 1)) + 1)) + 1)) + 1)), .int .i64 (IntKind.i64.wrap ((IntKind.i64.wrap ((IntKind.i64.wrap ((IntKind.i64.wrap ((IntKind.i64.wrap ((IntKind.i64.wrap ((IntKind.i64.wrap ((IntKind.i64.wrap ((IntKind.i64.wrap (s2 + 1)) + 1)) + 1)) + 1)) + 1)) + 1)) + 1)) + 1)) + 1)), .string x1.R.V.S]) RTCond.lasts Sz_3 rfl rfl rfl rfl ⟨rfl, trivial⟩ rfl h10 rfl rfl (fun ap => (Dj.nil _))) rfl (fun Φ_11 D11 q10 => ?_)
  obtain ⟨⟨ap10, fr10⟩, h11⟩ := q10
  refine WL.nil <| WT.seq <| WT.region <| lq (q_move rfl) rfl <| lq (q_add rfl rfl) rfl <| lq (q_assign rfl) rfl <| WL.nil <| WT.seq <| WT.region <| lq (q_move rfl) rfl <| lq (q_move rfl) rfl <| lq (q_move rfl) rfl ?_
  obtain ⟨x5, hx5, h⟩ := bind_some h
  refine lp (p_call Fun_160 rfl (fun w1 hw => m_l_markText_ok hw.fro N (IntKind.i64.wrap ((IntKind.i64.wrap ((IntKind.i64.wrap ((IntKind.i64.wrap ((IntKind.i64.wrap ((IntKind.i64.wrap ((IntKind.i64.wrap ((IntKind.i64.wrap ((IntKind.i64.wrap ((IntKind.i64.wrap (s2 + 1)) + 1)) + 1)) + 1)) + 1)) + 1)) + 1)) + 1)) + 1)) + 1)) hx5)) rfl <| lq (q_indexAddrH Sl_46 rfl rfl h11 hx1) rfl <| lq (q_fieldAddr Fld_128_2 rfl) rfl ?_
  refine lq (q_fieldAddr Fld_126_2 rfl) rfl <| lq (q_fieldAddr Fld_121_2 rfl) rfl ?_
  refine lu (u_setH (js := [0]) (Rr := []) (o := 10) (vs := [.string x5]) (cs' := [.int .i64 s2, .int .i64 (IntKind.i64.wrap (s2 + 1)), .string x2, .int .i64 (IntKind.i64.wrap ((IntKind.i64.wrap ((IntKind.i64.wrap (s2 + 1)) + 1)) + 1)), .int .i64 (IntKind.i64.wrap ((IntKind.i64.wrap ((IntKind.i64.wrap ((IntKind.i64.wrap (s2 + 1)) + 1)) + 1)) + 1)), .string x3, .int .i64 (IntKind.i64.wrap ((IntKind.i64.wrap ((IntKind.i64.wrap ((IntKind.i64.wrap ((IntKind.i64.wrap ((IntKind.i64.wrap (s2 + 1)) + 1)) + 1)) + 1)) + 1)) + 1)), .string x4, .int .i64 (IntKind.i64.wrap ((IntKind.i64.wrap ((IntKind.i64.wrap ((IntKind.i64.wrap ((IntKind.i64.wrap ((IntKind.i64.wrap ((IntKind.i64.wrap ((IntKind.i64.wrap (s2 + 1)) + 1)) + 1)) + 1)) + 1)) + 1)) + 1)) + 1)), .int .i64 (IntKind.i64.wrap ((IntKind.i64.wrap ((IntKind.i64.wrap ((IntKind.i64.wrap ((IntKind.i64.wrap ((IntKind.i64.wrap ((IntKind.i64.wrap ((IntKind.i64.wrap ((IntKind.i64.wrap (s2 + 1)) + 1)) + 1)) + 1)) + 1)) + 1)) + 1)) + 1)) + 1)), .string x5]) RTCond.lasts Sz_9 rfl rfl rfl rfl ⟨rfl, trivial⟩ rfl h11 rfl rfl (fun ap => (Dj.nil _))) rfl (fun Φ_12 D12 q11 => ?_)
  obtain ⟨⟨ap11, fr11⟩, h12⟩ := q11
  refine WL.nil <| WT.region <| lq (q_move rfl) rfl <| lq (q_add rfl rfl) rfl <| lq (q_assign rfl) rfl <| WL.nil <| WT.inBlock <| WT.region <| lq (q_move rfl) rfl <| lq (q_add rfl rfl) rfl <| lq (q_assign rfl) rfl <| WL.nil ?_
  have h13 := h12.unfocusF RTCond.flat (cs := [.int .i64 s2, .int .i64 (IntKind.i64.wrap (s2 + 1)), .string x2, .int .i64 (IntKind.i64.wrap ((IntKind.i64.wrap ((IntKind.i64.wrap (s2 + 1)) + 1)) + 1)), .int .i64 (IntKind.i64.wrap ((IntKind.i64.wrap ((IntKind.i64.wrap ((IntKind.i64.wrap (s2 + 1)) + 1)) + 1)) + 1)), .string x3, .int .i64 (IntKind.i64.wrap ((IntKind.i64.wrap ((IntKind.i64.wrap ((IntKind.i64.wrap ((IntKind.i64.wrap ((IntKind.i64.wrap (s2 + 1)) + 1)) + 1)) + 1)) + 1)) + 1)), .string x4, .int .i64 (IntKind.i64.wrap ((IntKind.i64.wrap ((IntKind.i64.wrap ((IntKind.i64.wrap ((IntKind.i64.wrap ((IntKind.i64.wrap ((IntKind.i64.wrap ((IntKind.i64.wrap (s2 + 1)) + 1)) + 1)) + 1)) + 1)) + 1)) + 1)) + 1)), .int .i64 (IntKind.i64.wrap ((IntKind.i64.wrap ((IntKind.i64.wrap ((IntKind.i64.wrap ((IntKind.i64.wrap ((IntKind.i64.wrap ((IntKind.i64.wrap ((IntKind.i64.wrap ((IntKind.i64.wrap (s2 + 1)) + 1)) + 1)) + 1)) + 1)) + 1)) + 1)) + 1)) + 1)), .string x5]) (x' := (⟨s2, (⟨IntKind.i64.wrap (s2 + 1), x2, (⟨IntKind.i64.wrap ((IntKind.i64.wrap ((IntKind.i64.wrap (s2 + 1)) + 1)) + 1), IntKind.i64.wrap ((IntKind.i64.wrap ((IntKind.i64.wrap ((IntKind.i64.wrap (s2 + 1)) + 1)) + 1)) + 1), x3⟩ : TVal)⟩ : TArg), (⟨IntKind.i64.wrap ((IntKind.i64.wrap ((IntKind.i64.wrap ((IntKind.i64.wrap ((IntKind.i64.wrap ((IntKind.i64.wrap (s2 + 1)) + 1)) + 1)) + 1)) + 1)) + 1), x4, (⟨IntKind.i64.wrap ((IntKind.i64.wrap ((IntKind.i64.wrap ((IntKind.i64.wrap ((IntKind.i64.wrap ((IntKind.i64.wrap ((IntKind.i64.wrap ((IntKind.i64.wrap (s2 + 1)) + 1)) + 1)) + 1)) + 1)) + 1)) + 1)) + 1), IntKind.i64.wrap ((IntKind.i64.wrap ((IntKind.i64.wrap ((IntKind.i64.wrap ((IntKind.i64.wrap ((IntKind.i64.wrap ((IntKind.i64.wrap ((IntKind.i64.wrap ((IntKind.i64.wrap (s2 + 1)) + 1)) + 1)) + 1)) + 1)) + 1)) + 1)) + 1)) + 1), x5⟩ : TVal)⟩ : TArg)⟩ : TCond)) ⟨rfl, rfl⟩
  refine WT.inLoop (WT.mono (l' := [(0, pv0), (1, .int .i64 (IntKind.i64.wrap ((IntKind.i64.wrap ((IntKind.i64.wrap ((IntKind.i64.wrap ((IntKind.i64.wrap ((IntKind.i64.wrap ((IntKind.i64.wrap ((IntKind.i64.wrap ((IntKind.i64.wrap ((IntKind.i64.wrap ((IntKind.i64.wrap (s2 + 1)) + 1)) + 1)) + 1)) + 1)) + 1)) + 1)) + 1)) + 1)) + 1)) + 1))), (5, .int .i64 (IntKind.i64.wrap (s3 + 1)))]) (S' := St w0 Φ_12 [] [ob pv0]) ⟨rfl, rfl, rfl, trivial⟩ (fun w1 hw => (hw.sel (js := [0]) rfl).selO (js := []) rfl) ?_)
  exact ih1 (Φ_12, (s1.set s3.toNat (⟨s2, (⟨IntKind.i64.wrap (s2 + 1), x2, (⟨IntKind.i64.wrap ((IntKind.i64.wrap ((IntKind.i64.wrap (s2 + 1)) + 1)) + 1), IntKind.i64.wrap ((IntKind.i64.wrap ((IntKind.i64.wrap ((IntKind.i64.wrap (s2 + 1)) + 1)) + 1)) + 1), x3⟩ : TVal)⟩ : TArg), (⟨IntKind.i64.wrap ((IntKind.i64.wrap ((IntKind.i64.wrap ((IntKind.i64.wrap ((IntKind.i64.wrap ((IntKind.i64.wrap (s2 + 1)) + 1)) + 1)) + 1)) + 1)) + 1), x4, (⟨IntKind.i64.wrap ((IntKind.i64.wrap ((IntKind.i64.wrap ((IntKind.i64.wrap ((IntKind.i64.wrap ((IntKind.i64.wrap ((IntKind.i64.wrap ((IntKind.i64.wrap (s2 + 1)) + 1)) + 1)) + 1)) + 1)) + 1)) + 1)) + 1), IntKind.i64.wrap ((IntKind.i64.wrap ((IntKind.i64.wrap ((IntKind.i64.wrap ((IntKind.i64.wrap ((IntKind.i64.wrap ((IntKind.i64.wrap ((IntKind.i64.wrap ((IntKind.i64.wrap (s2 + 1)) + 1)) + 1)) + 1)) + 1)) + 1)) + 1)) + 1)) + 1), x5⟩ : TVal)⟩ : TArg)⟩ : TCond)), IntKind.i64.wrap ((IntKind.i64.wrap ((IntKind.i64.wrap ((IntKind.i64.wrap ((IntKind.i64.wrap ((IntKind.i64.wrap ((IntKind.i64.wrap ((IntKind.i64.wrap ((IntKind.i64.wrap ((IntKind.i64.wrap ((IntKind.i64.wrap (s2 + 1)) + 1)) + 1)) + 1)) + 1)) + 1)) + 1)) + 1)) + 1)) + 1)) + 1), IntKind.i64.wrap (s3 + 1)) ⟨h, h13⟩
 replace h := ite_f h c1
 refine WT.exit rfl <| WT.seq <| WT.region <| lq (q_move rfl) rfl <| lq (q_assign rfl) rfl <| WL.nil ?_
 refine WT.ret Tryz.func162 (resOk.one rfl) (fun w1 hw => ?_)
 subst hb0
 cases h
 refine postG_of_St (js := [0]) hw rfl ⟨rfl, rfl, k1⟩
theorem m_l_markExprS_ok {Φ : Hp} {w : World} (hΦ : In Φ w) (N : Nat) (p0 : (List TExpr)) (p1 : Int) {pv0 : Value} (ph0 : OSl RTExpr 175 11 Φ [] pv0 p0) (hB : [ob pv0].flatten.Nodup) (hlt : ∀ k ∈ [ob pv0].flatten, k < w.heap.size) {r : Int × (List TExpr)} (h : m_l_markExprS N p0 p1 = some r) :
  Calls Tryz.prog 217 [pv0, .int .i64 p1].toArray w (PostG Φ w [ob pv0].flatten (fun Φ' Fs v => v = .int .i64 r.1 ∧ Fs = [ob pv0] ∧ OSl RTExpr 175 11 Φ' [] pv0 r.2)) := by
 refine enter Tryz.func217 rfl Tryz.ntmps217 rfl (St.start hΦ [ob pv0] hB hlt) ?_
 generalize hb0 : (⟨w, [ob pv0].flatten, Φ⟩ : Base) = w0
 unfold m_l_markExprS at h
 refine WT.seq <| WT.region <| lq (q_assign rfl) rfl <| WL.nil <| WT.seq <| WT.seq <| WT.region <| lq (q_assign rfl) rfl <| WL.nil <| WT.block <| WT.loop <| WT.mono (l' := [(0, pv0), (1, .int .i64 p1), (5, .int .i64 0)]) (S' := St w0 Φ [] [ob pv0]) ⟨rfl, rfl, rfl, trivial⟩ (fun w1 hw => (hw.sel (js := [0]) rfl).selO (js := []) rfl) ?_
 refine loop_ind (σ := Hp × (List TExpr) × Int × Int) (fun s => [(0, pv0), (1, .int .i64 s.2.2.1), (5, .int .i64 s.2.2.2)]) (fun s => St w0 s.1 [] [ob pv0]) (fun m s => m_l_markExprS_l1 N m s.2.1 s.2.2.1 s.2.2.2 = some r ∧ (OSl RTExpr 175 11 s.1 [] pv0 s.2.1)) (fun s hm => none_ne (show (none : Option (Int × (List TExpr))) = some r from hm.1)) (fun n1 ih1 s hm => ?_) N (Φ, p0, p1, 0) ⟨h, ph0⟩
 obtain ⟨Φ_1, s1, s2, s3⟩ := s
 obtain ⟨h, k1⟩ := hm
 replace h : m_l_markExprS_l1 N (n1 + 1) s1 s2 s3 = some r := h
 replace k1 : OSl RTExpr 175 11 Φ_1 [] pv0 s1 := k1
 show WT _ _ [(0, pv0), (1, .int .i64 s2), (5, .int .i64 s3)] (St w0 Φ_1 [] [ob pv0])
 unfold m_l_markExprS_l1 at h
 refine WT.seq <| WT.seq <| WT.region <| lq (q_move rfl) rfl <| lq (q_move rfl) rfl <| lq (q_lenR Sl_133 rfl rfl k1.rsl) rfl <| lq (q_lss rfl rfl) rfl <| WL.nil ?_
 refine WT.cond rfl (fun c1 => ?_) (fun c1 => ?_)
 ·replace h := ite_t h c1
  refine WT.skip <| WT.seq <| WT.block <| WT.seq <| WT.region <| lq (q_move rfl) rfl <| lq (q_move rfl) rfl <| lq (q_move rfl) rfl ?_
  obtain ⟨x1, hx1, h⟩ := bind_some h
  refine lp (p_call Fun_160 rfl (fun w1 hw => m_l_markText_ok hw.fro N s2 hx1)) rfl ?_
  obtain ⟨x2, hx2, h⟩ := bind_some h
  obtain ⟨cs1, F1, h1, r1⟩ := k1.focusF RTExpr.flat hx2
  obtain ⟨rfl, -⟩ := r1
  refine lq (q_indexAddrH Sl_133 rfl rfl h1 hx2) rfl <| lq (q_fieldAddr Fld_175_0 rfl) rfl ?_
  refine lu (u_setH (js := [0]) (Rr := []) (o := 0) (vs := [.string x1]) (cs' := [.string x1, .int .i64 x2.L.K, .string x2.L.S, .int .i64 x2.L.V.K, .int .i64 x2.L.V.N, .string x2.L.V.S, .int .i64 x2.R.K, .string x2.R.S, .int .i64 x2.R.V.K, .int .i64 x2.R.V.N, .string x2.R.V.S]) RTExpr.lasts Sz_9 rfl rfl rfl rfl ⟨rfl, trivial⟩ rfl h1 rfl rfl (fun ap => (Dj.nil _))) rfl (fun Φ_2 D2 q1 => ?_)
  obtain ⟨⟨ap1, fr1⟩, h2⟩ := q1
  refine WL.nil <| WT.seq <| WT.region <| lq (q_move rfl) rfl <| lq (q_add rfl rfl) rfl <| lq (q_assign rfl) rfl <| WL.nil <| WT.seq <| WT.region <| lq (q_move rfl) rfl <| lq (q_move rfl) rfl <| lq (q_move rfl) rfl <| lq (q_indexAddrH Sl_133 rfl rfl h2 hx2) rfl <| lq (q_fieldAddr Fld_175_1 rfl) rfl <| lq (q_fieldAddr Fld_126_0 rfl) rfl ?_
  refine lu (u_setH (js := [0]) (Rr := []) (o := 1) (vs := [.int .i64 (IntKind.i64.wrap (s2 + 1))]) (cs' := [.string x1, .int .i64 (IntKind.i64.wrap (s2 + 1)), .string x2.L.S, .int .i64 x2.L.V.K, .int .i64 x2.L.V.N, .string x2.L.V.S, .int .i64 x2.R.K, .string x2.R.S, .int .i64 x2.R.V.K, .int .i64 x2.R.V.N, .string x2.R.V.S]) RTExpr.lasts Sz_3 rfl rfl rfl rfl ⟨rfl, trivial⟩ rfl h2 rfl rfl (fun ap => (Dj.nil _))) rfl (fun Φ_3 D3 q2 => ?_)
  obtain ⟨⟨ap2, fr2⟩, h3⟩ := q2
  refine WL.nil <| WT.seq <| WT.region <| lq (q_move rfl) rfl <| lq (q_add rfl rfl) rfl <| lq (q_assign rfl) rfl <| WL.nil <| WT.seq <| WT.region <| lq (q_move rfl) rfl <| lq (q_move rfl) rfl <| lq (q_move rfl) rfl ?_
  obtain ⟨x3, hx3, h⟩ := bind_some h
  refine lp (p_call Fun_160 rfl (fun w1 hw => m_l_markText_ok hw.fro N (IntKind.i64.wrap ((IntKind.i64.wrap (s2 + 1)) + 1)) hx3)) rfl <| lq (q_indexAddrH Sl_133 rfl rfl h3 hx2) rfl <| lq (q_fieldAddr Fld_175_1 rfl) rfl <| lq (q_fieldAddr Fld_126_1 rfl) rfl ?_
  refine lu (u_setH (js := [0]) (Rr := []) (o := 2) (vs := [.string x3]) (cs' := [.string x1, .int .i64 (IntKind.i64.wrap (s2 + 1)), .string x3, .int .i64 x2.L.V.K, .int .i64 x2.L.V.N, .string x2.L.V.S, .int .i64 x2.R.K, .string x2.R.S, .int .i64 x2.R.V.K, .int .i64 x2.R.V.N, .string x2.R.V.S]) RTExpr.lasts Sz_9 rfl rfl rfl rfl ⟨rfl, trivial⟩ rfl h3 rfl rfl (fun ap => (Dj.nil _))) rfl (fun Φ_4 D4 q3 => ?_)
  obtain ⟨⟨ap3, fr3⟩, h4⟩ := q3
  refine WL.nil <| WT.seq <| WT.region <| lq (q_move rfl) rfl <| lq (q_add rfl rfl) rfl <| lq (q_assign rfl) rfl <| WL.nil <| WT.seq <| WT.region <| lq (q_move rfl) rfl <| lq (q_move rfl) rfl <| lq (q_move rfl) rfl <| lq (q_indexAddrH Sl_133 rfl rfl h4 hx2) rfl <| lq (q_fieldAddr Fld_175_1 rfl) rfl <| lq (q_fieldAddr Fld_126_2 rfl) rfl <| lq (q_fieldAddr Fld_121_0 rfl) rfl ?_
  refine lu (u_setH (js := [0]) (Rr := []) (o := 3) (vs := [.int .i64 (IntKind.i64.wrap ((IntKind.i64.wrap ((IntKind.i64.wrap (s2 + 1)) + 1)) + 1))]) (cs' := [.string x1, .int .i64 (IntKind.i64.wrap (s2 + 1)), .string x3, .int .i64 (IntKind.i64.wrap ((IntKind.i64.wrap ((IntKind.i64.wrap (s2 + 1)) + 1)) + 1)), .int .i64 x2.L.V.N, .string x2.L.V.S, .int .i64 x2.R.K, .string x2.R.S, .int .i64 x2.R.V.K, .int .i64 x2.R.V.N, .string x2.R.V.S]) RTExpr.lasts Sz_3 rfl rfl rfl rfl ⟨rfl, trivial⟩ rfl h4 rfl rfl (fun ap => (Dj.nil _))) rfl (fun Φ_5 D5 q4 => ?_)
  obtain ⟨⟨ap4, fr4⟩, h5⟩ := q4
  refine WL.nil <| WT.seq <| WT.region <| lq (q_move rfl) rfl <| lq (q_add rfl rfl) rfl <| lq (q_assign rfl) rfl <| WL.nil <| WT.seq <| WT.region <| lq (q_move rfl) rfl <| lq (q_move rfl) rfl <| lq (q_move rfl) rfl <| lq (q_indexAddrH Sl_133 rfl rfl h5 hx2) rfl <| lq (q_fieldAddr Fld_175_1 rfl) rfl <| lq (q_fieldAddr Fld_126_2 rfl) rfl <| lq (q_fieldAddr Fld_121_1 rfl) rfl ?_
  refine lu (u_setH (js := [0]) (Rr := []) (o := 4) (vs := [.int .i64 (IntKind.i64.wrap ((IntKind.i64.wrap ((IntKind.i64.wrap ((IntKind.i64.wrap (s2 + 1)) + 1)) + 1)) + 1))]) (cs' := [.string x1, .int .i64 (IntKind.i64.wrap (s2 + 1)), .string x3, .int .i64 (IntKind.i64.wrap ((IntKind.i64.wrap ((IntKind.i64.wrap (s2 + 1)) + 1)) + 1)), .int .i64 (IntKind.i64.wrap ((IntKind.i64.wrap ((IntKind.i64.wrap ((IntKind.i64.wrap (s2 + 1)) + 1)) + 1)) + 1)), .string x2.L.V.S, .int .i64 x2.R.K, .string x2.R.S, .int .i64 x2.R.V.K, .int .i64 x2.R.V.N, .string x2.R.V.S]) RTExpr.lasts Sz_3 rfl rfl rfl rfl ⟨rfl, trivial⟩ rfl h5 rfl rfl (fun ap => (Dj.nil _))) rfl (fun Φ_6 D6 q5 => ?_)
  obtain ⟨⟨ap5, fr5⟩, h6⟩ := q5
  refine WL.nil <| WT.seq <| WT.region <| lq (q_move rfl) rfl <| lq (q_add rfl rfl) rfl <| lq (q_assign rfl) rfl <| WL.nil <| WT.seq <| WT.region <| lq (q_move rfl) rfl <| lq (q_move rfl) rfl <| lq (q_move rfl) rfl ?_
  obtain ⟨x4, hx4, h⟩ := bind_some h
  refine lp (p_call Fun_160 rfl (fun w1 hw => m_l_markText_ok hw.fro N (IntKind.i64.wrap ((IntKind.i64.wrap ((IntKind.i64.wrap ((IntKind.i64.wrap ((IntKind.i64.wrap (s2 + 1)) + 1)) + 1)) + 1)) + 1)) hx4)) rfl <| lq (q_indexAddrH Sl_133 rfl rfl h6 hx2) rfl <| lq (q_fieldAddr Fld_175_1 rfl) rfl <| lq (q_fieldAddr Fld_126_2 rfl) rfl <| lq (q_fieldAddr Fld_121_2 rfl) rfl ?_
  refine lu (u_setH (js := [0]) (Rr := []) (o := 5) (vs := [.string x4]) (cs' := [.string x1, .int .i64 (IntKind.i64.wrap (s2 + 1)), .string x3, .int .i64 (IntKind.i64.wrap ((IntKind.i64.wrap ((IntKind.i64.wrap (s2 + 1)) + 1)) + 1)), .int .i64 (IntKind.i64.wrap ((IntKind.i64.wrap ((IntKind.i64.wrap ((IntKind.i64.wrap (s2 + 1)) + 1)) + 1)) + 1)), .string x4, .int .i64 x2.R.K, .string x2.R.S, .int .i64 x2.R.V.K, .int .i64 x2.R.V.N, .string x2.R.V.S]) RTExpr.lasts Sz_9 rfl rfl rfl rfl ⟨rfl, trivial⟩ rfl h6 rfl rfl (fun ap => (Dj.nil _))) rfl (fun Φ_7 D7 q6 => ?_)
  obtain ⟨⟨ap6, fr6⟩, h7⟩ := q6
  refine WL.nil <| WT.seq <| WT.region <| lq (q_move rfl) rfl <| lq (q_add rfl rfl) rfl <| lq (q_assign rfl) rfl <| WL.nil <| WT.seq <| WT.region <| lq (q_move rfl) rfl <| lq (q_move rfl) rfl <| lq (q_move rfl) rfl <| lq (q_indexAddrH Sl_133 rfl rfl h7 hx2) rfl <| lq (q_fieldAddr Fld_175_2 rfl) rfl <| lq (q_fieldAddr Fld_126_0 rfl) rfl ?_
  refine lu (u_setH (js := [0]) (Rr := []) (o := 6) (vs := [.int .i64 (IntKind.i64.wrap ((IntKind.i64.wrap ((IntKind.i64.wrap ((IntKind.i64.wrap ((IntKind.i64.wrap ((IntKind.i64.wrap (s2 + 1)) + 1)) + 1)) + 1)) + 1)) + 1))]) (cs' := [.string x1, .int .i64 (IntKind.i64.wrap (s2 + 1)), .string x3, .int .i64 (IntKind.i64.wrap ((IntKind.i64.wrap ((IntKind.i64.wrap (s2 + 1)) + 1)) + 1)), .int .i64 (IntKind.i64.wrap ((IntKind.i64.wrap ((IntKind.i64.wrap ((IntKind.i64.wrap (s2 + 1)) + 1)) + 1)) + 1)), .string x4, .int .i64 (IntKind.i64.wrap ((IntKind.i64.wrap ((IntKind.i64.wrap ((IntKind.i64.wrap ((IntKind.i64.wrap ((IntKind.i64.wrap (s2 + 1)) + 1)) + 1)) + 1)) + 1)) + 1)), .string x2.R.S, .int .i64 x2.R.V.K, .int .i64 x2.R.V.N, .string x2.R.V.S]) RTExpr.lasts Sz_3 rfl rfl rfl rfl ⟨rfl, trivial⟩ rfl h7 rfl rfl (fun ap => (Dj.nil _))) rfl (fun Φ_8 D8 q7 => ?_)
  obtain ⟨⟨ap7, fr7⟩, h8⟩ := q7
  refine WL.nil <| WT.seq <| WT.region <| lq (q_move rfl) rfl <| lq (q_add rfl rfl) rfl <| lq (q_assign rfl) rfl <| WL.nil <| WT.seq <| WT.region <| lq (q_move rfl) rfl <| lq (q_move rfl) rfl <| lq (q_move rfl) rfl ?_
  obtain ⟨x5, hx5, h⟩ := bind_some h
  refine lp (p_call Fun_160 rfl (fun w1 hw => m_l_markText_ok hw.fro N (IntKind.i64.wrap ((IntKind.i64.wrap ((IntKind.i64.wrap ((IntKind.i64.wrap ((IntKind.i64.wrap ((IntKind.i64.wrap ((IntKind.i64.wrap (s2 + 1)) + 1)) + 1)) + 1)) + 1)) + 1)) + 1)) hx5)) rfl <| lq (q_indexAddrH Sl_133 rfl rfl h8 hx2) rfl <| lq (q_fieldAddr Fld_175_2 rfl) rfl <| lq (q_fieldAddr Fld_126_1 rfl) rfl ?_
  refine lu (u_setH (js := [0]) (Rr := []) (o := 7) (vs := [.string x5]) (cs' := [.string x1, .int .i64 (IntKind.i64.wrap (s2 + 1)), .string x3, .int .i64 (IntKind.i64.wrap ((IntKind.i64.wrap ((IntKind.i64.wrap (s2 + 1)) + 1)) + 1)), .int .i64 (IntKind.i64.wrap ((IntKind.i64.wrap ((IntKind.i64.wrap ((IntKind.i64.wrap (s2 + 1)) + 1)) + 1)) + 1)), .string x4, .int .i64 (IntKind.i64.wrap ((IntKind.i64.wrap ((IntKind.i64.wrap ((IntKind.i64.wrap ((IntKind.i64.wrap ((IntKind.i64.wrap (s2 + 1)) + 1)) + 1)) + 1)) + 1)) + 1)), .string x5, .int .i64 x2.R.V.K, .int .i64 x2.R.V.N, .string x2.R.V.S]) RTExpr.lasts Sz_9 rfl rfl rfl rfl ⟨rfl, trivial⟩ rfl h8 rfl rfl (fun ap => (Dj.nil _))) rfl (fun Φ_9 D9 q8 => ?_)
  obtain ⟨⟨ap8, fr8⟩, h9⟩ := q8
  refine WL.nil <| WT.seq <| WT.region <| lq (q_move rfl) rfl <| lq (q_add rfl rfl) rfl <| lq (q_assign rfl) rfl <| WL.nil <| WT.seq <| WT.region <| lq (q_move rfl) rfl <| lq (q_move rfl) rfl <| lq (q_move rfl) rfl <| lq (q_indexAddrH Sl_133 rfl rfl h9 hx2) rfl <| lq (q_fieldAddr Fld_175_2 rfl) rfl <| lq (q_fieldAddr Fld_126_2 rfl) rfl <| lq (q_fieldAddr Fld_121_0 rfl) rfl ?_
  refine lu (u_setH (js := [0]) (Rr := []) (o := 8) (vs := [.int .i64 (IntKind.i64.wrap ((IntKind.i64.wrap ((IntKind.i64.wrap ((IntKind.i64.wrap ((IntKind.i64.wrap ((IntKind.i64.wrap ((IntKind.i64.wrap ((IntKind.i64.wrap (s2 + 1)) + 1)) + 1)) + 1)) + 1)) + 1)) + 1)) + 1))]) (cs' := [.string x1, .int .i64 (IntKind.i64.wrap (s2 + 1)), .string x3, .int .i64 (IntKind.i64.wrap ((IntKind.i64.wrap ((IntKind.i64.wrap (s2 + 1)) + 1)) + 1)), .int .i64 (IntKind.i64.wrap ((IntKind.i64.wrap ((IntKind.i64.wrap ((IntKind.i64.wrap (s2 + 1)) + 1)) + 1)) + 1)), .string x4, .int .i64 (IntKind.i64.wrap ((IntKind.i64.wrap ((IntKind.i64.wrap ((IntKind.i64.wrap ((IntKind.i64.wrap ((IntKind.i64.wrap (s2 + 1)) + 1)) + 1)) + 1)) + 1)) + 1)), .string x5, .int .i64 (IntKind.i64.wrap ((IntKind.i64.wrap ((IntKind.i64.wrap ((IntKind.i64.wrap ((IntKind.i64.wrap ((IntKind.i64.wrap ((IntKind.i64.wrap ((IntKind.i64.wrap (s2 + 1)) + 1)) + 1)) + 1)) + 1)) + 1)) + 1)) + 1)), .int .i64 x2.R.V.N, .string x2.R.V.S]) RTExpr.lasts Sz_3 rfl rfl rfl rfl ⟨rfl, trivial⟩ rfl h9 rfl rfl (fun ap => (Dj.nil _))) rfl (fun Φ_10 D10 q9 => ?_)
  obtain ⟨⟨ap9, fr9⟩, h10⟩ := q9
  refine WL.nil <| WT.seq <| WT.region <| lq (q_move rfl) rfl <| lq (q_add rfl rfl) rfl <| lq (q_assign rfl) rfl <| WL.nil <| WT.seq <| WT.region <| lq (q_move rfl) rfl <| lq (q_move rfl) rfl <| lq (q_move rfl) rfl <| lq (q_indexAddrH Sl_133 rfl rfl h10 hx2) rfl <| lq (q_fieldAddr Fld_175_2 rfl) rfl <| lq (q_fieldAddr Fld_126_2 rfl) rfl <| lq (q_fieldAddr Fld_121_1 rfl) rfl ?_
  refine lu (u_setH (js := [0]) (Rr := []) (o := 9) (vs := [.int .i64 (IntKind.i64.wrap ((IntKind.i64.wrap ((IntKind.i64.wrap ((IntKind.i64.wrap ((IntKind.i64.wrap ((IntKind.i64.wrap ((IntKind.i64.wrap ((IntKind.i64.wrap ((IntKind.i64.wrap (s2 + 1)) + 1)) + 1)) + 1)) + 1)) + 1)) + 1)) + 1)) + 1))]) (cs' := [.string x1, .int .i64 (IntKind.i64.wrap (s2 + 1)), .string x3, .int .i64 (IntKind.i64.wrap ((IntKind.i64.wrap ((IntKind.i64.wrap (s2 + 1)) + 1)) + 1)), .int .i64 (IntKind.i64.wrap ((IntKind.i64.wrap ((IntKind.i64.wrap ((IntKind.i64.wrap (s2 + 1)) + 1)) + 1)) + 1)), .string x4, .int .i64 (IntKind.i64.wrap ((IntKind.i64.wrap ((IntKind.i64.wrap ((IntKind.i64.wrap ((IntKind.i64.wrap ((IntKind.i64.wrap (s2 + 1)) + 1)) + 1)) + 1)) + 1)) + 1)), .string x5, .int .i64 (IntKind.i64.wrap ((IntKind.i64.wrap ((IntKind.i64.wrap ((IntKind.i64.wrap ((IntKind.i64.wrap ((IntKind.i64.wrap ((IntKind.i64.wrap ((IntKind.i64.wrap (s2 + 1)) + 1)) + 1)) + 1)) + 1)) + 1)) + 1)) + 1)), .int .i64 (IntKind.i64.wrap ((IntKind.i64.wrap ((IntKind.i64.wrap ((IntKind.i64.wrap ((IntKind.i64.wrap ((IntKind.i64.wrap ((IntKind.i64.wrap ((IntKind.i64.wrap ((IntKind.i64.wrap (s2 + 1)) + 1)) + 1)) + 1)) + 1)) + 1)) + 1)) + 1)) + 1)), .string x2.R.V.S]) RTExpr.lasts Sz_3 rfl rfl rfl rfl ⟨rfl, trivial⟩ rfl h10 rfl rfl (fun ap => (Dj.nil _))) rfl (fun Φ_11 D11 q10 => ?_)
  obtain ⟨⟨ap10, fr10⟩, h11⟩ := q10
  refine WL.nil <| WT.seq <| WT.region <| lq (q_move rfl) rfl <| lq (q_add rfl rfl) rfl <| lq (q_assign rfl) rfl <| WL.nil <| WT.seq <| WT.region <| lq (q_move rfl) rfl <| lq (q_move rfl) rfl <| lq (q_move rfl) rfl ?_
  obtain ⟨x6, hx6, h⟩ := bind_some h
  refine lp (p_call Fun_160 rfl (fun w1 hw => m_l_markText_ok hw.fro N (IntKind.i64.wrap ((IntKind.i64.wrap ((IntKind.i64.wrap ((IntKind.i64.wrap ((IntKind.i64.wrap ((IntKind.i64.wrap ((IntKind.i64.wrap ((IntKind.i64.wrap ((IntKind.i64.wrap ((IntKind.i64.wrap (s2 + 1)) + 1)) + 1)) + 1)) + 1)) + 1)) + 1)) + 1)) + 1)) + 1)) hx6)) rfl <| lq (q_indexAddrH Sl_133 rfl rfl h11 hx2) rfl <| lq (q_fieldAddr Fld_175_2 rfl) rfl ?_
  refine lq (q_fieldAddr Fld_126_2 rfl) rfl <| lq (q_fieldAddr Fld_121_2 rfl) rfl ?_
  refine lu (u_setH (js := [0]) (Rr := []) (o := 10) (vs := [.string x6]) (cs' := [.string x1, .int .i64 (IntKind.i64.wrap (s2 + 1)), .string x3, .int .i64 (IntKind.i64.wrap ((IntKind.i64.wrap ((IntKind.i64.wrap (s2 + 1)) + 1)) + 1)), .int .i64 (IntKind.i64.wrap ((IntKind.i64.wrap ((IntKind.i64.wrap ((IntKind.i64.wrap (s2 + 1)) + 1)) + 1)) + 1)), .string x4, .int .i64 (IntKind.i64.wrap ((IntKind.i64.wrap ((IntKind.i64.wrap ((IntKind.i64.wrap ((IntKind.i64.wrap ((IntKind.i64.wrap (s2 + 1)) + 1)) + 1)) + 1)) + 1)) + 1)), .string x5, .int .i64 (IntKind.i64.wrap ((IntKind.i64.wrap ((IntKind.i64.wrap ((IntKind.i64.wrap ((IntKind.i64.wrap ((IntKind.i64.wrap ((IntKind.i64.wrap ((IntKind.i64.wrap (s2 + 1)) + 1)) + 1)) + 1)) + 1)) + 1)) + 1)) + 1)), .int .i64 (IntKind.i64.wrap ((IntKind.i64.wrap ((IntKind.i64.wrap ((IntKind.i64.wrap ((IntKind.i64.wrap ((IntKind.i64.wrap ((IntKind.i64.wrap ((IntKind.i64.wrap ((IntKind.i64.wrap (s2 + 1)) + 1)) + 1)) + 1)) + 1)) + 1)) + 1)) + 1)) + 1)), .string x6]) RTExpr.lasts Sz_9 rfl rfl rfl rfl ⟨rfl, trivial⟩ rfl h11 rfl rfl (fun ap => (Dj.nil _))) rfl (fun Φ_12 D12 q11 => ?_)
  obtain ⟨⟨ap11, fr11⟩, h12⟩ := q11
  refine WL.nil <| WT.region <| lq (q_move rfl) rfl <| lq (q_add rfl rfl) rfl <| lq (q_assign rfl) rfl <| WL.nil <| WT.inBlock <| WT.region <| lq (q_move rfl) rfl <| lq (q_add rfl rfl) rfl <| lq (q_assign rfl) rfl <| WL.nil ?_
  have h13 := h12.unfocusF RTExpr.flat (cs := [.string x1, .int .i64 (IntKind.i64.wrap (s2 + 1)), .string x3, .int .i64 (IntKind.i64.wrap ((IntKind.i64.wrap ((IntKind.i64.wrap (s2 + 1)) + 1)) + 1)), .int .i64 (IntKind.i64.wrap ((IntKind.i64.wrap ((IntKind.i64.wrap ((IntKind.i64.wrap (s2 + 1)) + 1)) + 1)) + 1)), .string x4, .int .i64 (IntKind.i64.wrap ((IntKind.i64.wrap ((IntKind.i64.wrap ((IntKind.i64.wrap ((IntKind.i64.wrap ((IntKind.i64.wrap (s2 + 1)) + 1)) + 1)) + 1)) + 1)) + 1)), .string x5, .int .i64 (IntKind.i64.wrap ((IntKind.i64.wrap ((IntKind.i64.wrap ((IntKind.i64.wrap ((IntKind.i64.wrap ((IntKind.i64.wrap ((IntKind.i64.wrap ((IntKind.i64.wrap (s2 + 1)) + 1)) + 1)) + 1)) + 1)) + 1)) + 1)) + 1)), .int .i64 (IntKind.i64.wrap ((IntKind.i64.wrap ((IntKind.i64.wrap ((IntKind.i64.wrap ((IntKind.i64.wrap ((IntKind.i64.wrap ((IntKind.i64.wrap ((IntKind.i64.wrap ((IntKind.i64.wrap (s2 + 1)) + 1)) + 1)) + 1)) + 1)) + 1)) + 1)) + 1)) + 1)), .string x6]) (x' := (⟨x1, (⟨IntKind.i64.wrap (s2 + 1), x3, (⟨IntKind.i64.wrap ((IntKind.i64.wrap ((IntKind.i64.wrap (s2 + 1)) + 1)) + 1), IntKind.i64.wrap ((IntKind.i64.wrap ((IntKind.i64.wrap ((IntKind.i64.wrap (s2 + 1)) + 1)) + 1)) + 1), x4⟩ : TVal)⟩ : TArg), (⟨IntKind.i64.wrap ((IntKind.i64.wrap ((IntKind.i64.wrap ((IntKind.i64.wrap ((IntKind.i64.wrap ((IntKind.i64.wrap (s2 + 1)) + 1)) + 1)) + 1)) + 1)) + 1), x5, (⟨IntKind.i64.wrap ((IntKind.i64.wrap ((IntKind.i64.wrap ((IntKind.i64.wrap ((IntKind.i64.wrap ((IntKind.i64.wrap ((IntKind.i64.wrap ((IntKind.i64.wrap (s2 + 1)) + 1)) + 1)) + 1)) + 1)) + 1)) + 1)) + 1), IntKind.i64.wrap ((IntKind.i64.wrap ((IntKind.i64.wrap ((IntKind.i64.wrap ((IntKind.i64.wrap ((IntKind.i64.wrap ((IntKind.i64.wrap ((IntKind.i64.wrap ((IntKind.i64.wrap (s2 + 1)) + 1)) + 1)) + 1)) + 1)) + 1)) + 1)) + 1)) + 1), x6⟩ : TVal)⟩ : TArg)⟩ : TExpr)) ⟨rfl, rfl⟩
  refine WT.inLoop (WT.mono (l' := [(0, pv0), (1, .int .i64 (IntKind.i64.wrap ((IntKind.i64.wrap ((IntKind.i64.wrap ((IntKind.i64.wrap ((IntKind.i64.wrap ((IntKind.i64.wrap ((IntKind.i64.wrap ((IntKind.i64.wrap ((IntKind.i64.wrap ((IntKind.i64.wrap ((IntKind.i64.wrap (s2 + 1)) + 1)) + 1)) + 1)) + 1)) + 1)) + 1)) + 1)) + 1)) + 1)) + 1))), (5, .int .i64 (IntKind.i64.wrap (s3 + 1)))]) (S' := St w0 Φ_12 [] [ob pv0]) ⟨rfl, rfl, rfl, trivial⟩ (fun w1 hw => (hw.sel (js := [0]) rfl).selO (js := []) rfl) ?_)
  exact ih1 (Φ_12, (s1.set s3.toNat (⟨x1, (⟨IntKind.i64.wrap (s2 + 1), x3, (⟨IntKind.i64.wrap ((IntKind.i64.wrap ((IntKind.i64.wrap (s2 + 1)) + 1)) + 1), IntKind.i64.wrap ((IntKind.i64.wrap ((IntKind.i64.wrap ((IntKind.i64.wrap (s2 + 1)) + 1)) + 1)) + 1), x4⟩ : TVal)⟩ : TArg), (⟨IntKind.i64.wrap ((IntKind.i64.wrap ((IntKind.i64.wrap ((IntKind.i64.wrap ((IntKind.i64.wrap ((IntKind.i64.wrap (s2 + 1)) + 1)) + 1)) + 1)) + 1)) + 1), x5, (⟨IntKind.i64.wrap ((IntKind.i64.wrap ((IntKind.i64.wrap ((IntKind.i64.wrap ((IntKind.i64.wrap ((IntKind.i64.wrap ((IntKind.i64.wrap ((IntKind.i64.wrap (s2 + 1)) + 1)) + 1)) + 1)) + 1)) + 1)) + 1)) + 1), IntKind.i64.wrap ((IntKind.i64.wrap ((IntKind.i64.wrap ((IntKind.i64.wrap ((IntKind.i64.wrap ((IntKind.i64.wrap ((IntKind.i64.wrap ((IntKind.i64.wrap ((IntKind.i64.wrap (s2 + 1)) + 1)) + 1)) + 1)) + 1)) + 1)) + 1)) + 1)) + 1), x6⟩ : TVal)⟩ : TArg)⟩ : TExpr)), IntKind.i64.wrap ((IntKind.i64.wrap ((IntKind.i64.wrap ((IntKind.i64.wrap ((IntKind.i64.wrap ((IntKind.i64.wrap ((IntKind.i64.wrap ((IntKind.i64.wrap ((IntKind.i64.wrap ((IntKind.i64.wrap ((IntKind.i64.wrap (s2 + 1)) + 1)) + 1)) + 1)) + 1)) + 1)) + 1)) + 1)) + 1)) + 1)) + 1), IntKind.i64.wrap (s3 + 1)) ⟨h, h13⟩
 replace h := ite_f h c1
 refine WT.exit rfl <| WT.seq <| WT.region <| lq (q_move rfl) rfl <| lq (q_assign rfl) rfl <| WL.nil ?_
 refine WT.ret Tryz.func217 (resOk.one rfl) (fun w1 hw => ?_)
 subst hb0
 cases h
 refine postG_of_St (js := [0]) hw rfl ⟨rfl, rfl, k1⟩
theorem m_l_markActS_ok {Φ : Hp} {w : World} (hΦ : In Φ w) (N : Nat) (p0 : (List TAct)) (p1 : Int) {pv0 : Value} {pD0 : List Nat} (ph0 : OSl OTAct 135 5 Φ pD0 pv0 p0) (hB : [ob pv0, pD0].flatten.Nodup) (hlt : ∀ k ∈ [ob pv0, pD0].flatten, k < w.heap.size) {r : Int × (List TAct)} (h : m_l_markActS N p0 p1 = some r) :
  Calls Tryz.prog 163 [pv0, .int .i64 p1].toArray w (PostG Φ w [ob pv0, pD0].flatten (fun Φ' Fs v => ∃ (Do_0_0 : List Nat), v = .int .i64 r.1 ∧ Fs = [ob pv0, Do_0_0] ∧ OSl OTAct 135 5 Φ' Do_0_0 pv0 r.2)) := by
 refine enter Tryz.func163 rfl Tryz.ntmps163 rfl (St.start hΦ [ob pv0, pD0] hB hlt) ?_
 generalize hb0 : (⟨w, [ob pv0, pD0].flatten, Φ⟩ : Base) = w0
 unfold m_l_markActS at h
 refine WT.seq <| WT.region <| lq (q_assign rfl) rfl <| WL.nil <| WT.seq <| WT.seq <| WT.region <| lq (q_assign rfl) rfl <| WL.nil <| WT.block <| WT.loop <| WT.mono (l' := [(0, pv0), (1, .int .i64 p1), (5, .int .i64 0)]) (S' := St w0 Φ [] [ob pv0, pD0]) ⟨rfl, rfl, rfl, trivial⟩ (fun w1 hw => (hw.sel (js := [0, 0]) rfl).selO (js := []) rfl) ?_
 refine loop_ind (σ := Hp × (List TAct) × List Nat × Int × Int) (fun s => [(0, pv0), (1, .int .i64 s.2.2.2.1), (5, .int .i64 s.2.2.2.2)]) (fun s => St w0 s.1 [] [ob pv0, s.2.2.1]) (fun m s => m_l_markActS_l1 N m s.2.1 s.2.2.2.1 s.2.2.2.2 = some r ∧ (OSl OTAct 135 5 s.1 s.2.2.1 pv0 s.2.1)) (fun s hm => none_ne (show (none : Option (Int × (List TAct))) = some r from hm.1)) (fun n1 ih1 s hm => ?_) N (Φ, p0, pD0, p1, 0) ⟨h, ph0⟩
 obtain ⟨Φ_1, s1, D1, s2, s3⟩ := s
 obtain ⟨h, k1⟩ := hm
 replace h : m_l_markActS_l1 N (n1 + 1) s1 s2 s3 = some r := h
 replace k1 : OSl OTAct 135 5 Φ_1 D1 pv0 s1 := k1
 show WT _ _ [(0, pv0), (1, .int .i64 s2), (5, .int .i64 s3)] (St w0 Φ_1 [] [ob pv0, D1])
 unfold m_l_markActS_l1 at h
 refine WT.seq <| WT.seq <| WT.region <| lq (q_move rfl) rfl <| lq (q_move rfl) rfl <| lq (q_lenR Sl_47 rfl rfl (k1.rslG OTAct.gives)) rfl <| lq (q_lss rfl rfl) rfl <| WL.nil ?_
 refine WT.cond rfl (fun c1 => ?_) (fun c1 => ?_)
 ·replace h := ite_t h c1
  refine WT.skip <| WT.seq <| WT.block <| WT.seq <| WT.region <| lq (q_move rfl) rfl <| lq (q_move rfl) rfl <| lq (q_move rfl) rfl ?_
  obtain ⟨x1, hx1, h⟩ := bind_some h
  obtain ⟨cs1, F1, D2, h1, r1, kf1, sp1⟩ := k1.focus hx1
  obtain ⟨v1, rfl, rfl, h2⟩ := r1
  refine WL.conv (S' := St w0 Φ_1 [] [ob v1, D2, ob pv0]) (fun w1 hw => hw.re (js := [1]) (Bs := [ob v1, D2]) rfl (by simpa [List.append_assoc] using sp1)) <| lq (q_indexAddrH Sl_47 rfl rfl h1 hx1) rfl <| lq (q_fieldAddr Fld_135_0 rfl) rfl ?_
  refine lu (u_setH (js := [2]) (Rr := [ob v1, D2]) (o := 0) (vs := [.int .i64 s2]) (cs' := [.int .i64 s2, .string x1.Name, v1, .int .i64 x1.N, .string x1.Undo]) OTAct.lasts Sz_3 rfl rfl rfl rfl ⟨rfl, trivial⟩ rfl h1 rfl rfl (fun ap => (ap.r (i := 1) rfl))) rfl (fun Φ_2 D3 q1 => ?_)
  obtain ⟨⟨ap1, fr1⟩, h3⟩ := q1
  replace h2 := h2.frame RTExpr.lasts fr1 (ap1.r (i := 0) rfl) (Dj.nil _)
  refine WL.nil <| WT.seq <| WT.region <| lq (q_move rfl) rfl <| lq (q_add rfl rfl) rfl <| lq (q_assign rfl) rfl <| WL.nil <| WT.seq <| WT.region <| lq (q_move rfl) rfl <| lq (q_move rfl) rfl <| lq (q_move rfl) rfl ?_
  obtain ⟨x2, hx2, h⟩ := bind_some h
  refine lp (p_call Fun_160 rfl (fun w1 hw => m_l_markText_ok hw.fro N (IntKind.i64.wrap (s2 + 1)) hx2)) rfl <| lq (q_indexAddrH Sl_47 rfl rfl h3 hx1) rfl <| lq (q_fieldAddr Fld_135_1 rfl) rfl ?_
  refine lu (u_setH (js := [0]) (Rr := [ob v1, D2]) (o := 1) (vs := [.string x2]) (cs' := [.int .i64 s2, .string x2, v1, .int .i64 x1.N, .string x1.Undo]) OTAct.lasts Sz_9 rfl rfl rfl rfl ⟨rfl, trivial⟩ rfl h3 rfl rfl (fun ap => (ap.r (i := 1) rfl))) rfl (fun Φ_3 D4 q2 => ?_)
  obtain ⟨⟨ap2, fr2⟩, h4⟩ := q2
  replace h2 := h2.frame RTExpr.lasts fr2 (ap2.r (i := 0) rfl) (Dj.nil _)
  refine WL.nil <| WT.seq <| WT.region <| lq (q_move rfl) rfl <| lq (q_add rfl rfl) rfl <| lq (q_assign rfl) rfl <| WL.nil <| WT.seq <| WT.region <| lq (q_move rfl) rfl <| lq (q_move rfl) rfl <| lq (q_indexAddrH Sl_47 rfl rfl h4 hx1) rfl <| lq (q_fieldAddr Fld_135_2 rfl) rfl <| lq (q_load1 T1_133 rfl (fun w1 hw => (h4.rg.of_eq 2 1 rfl rfl : rg _ _ _ [v1]).rangeAt hw.fro)) rfl <| lq (q_move rfl) rfl ?_
  obtain ⟨x3, hx3, h⟩ := bind_some h
  refine lc (k_call (js := [1]) (R := [ob pv0, D2]) Fun_217 rfl rfl (fun w1 hw ap hl => m_l_markExprS_ok hw.fro N x1.Args (IntKind.i64.wrap ((IntKind.i64.wrap (s2 + 1)) + 1)) h2 ap.nd hl hx3)) rfl (fun v2 Φ_4 F2 q3 => ?_)
  obtain ⟨ap3, fr3, rfl, rfl, h5⟩ := q3
  replace h4 := h4.frame OTAct.lasts fr3 (ap3.r (i := 0) rfl) (ap3.r (i := 1) rfl)
  refine lq (q_assign rfl) rfl <| WL.nil <| WT.seq <| WT.region <| lq (q_move rfl) rfl <| lq (q_move rfl) rfl <| lq (q_move rfl) rfl <| lq (q_indexAddrH Sl_47 rfl rfl h4 hx1) rfl <| lq (q_fieldAddr Fld_135_3 rfl) rfl ?_
  refine lu (u_setH (js := [1]) (Rr := [ob v1, D2]) (o := 3) (vs := [.int .i64 x3.1]) (cs' := [.int .i64 s2, .string x2, v1, .int .i64 x3.1, .string x1.Undo]) OTAct.lasts Sz_3 rfl rfl rfl rfl ⟨rfl, trivial⟩ rfl h4 rfl rfl (fun ap => (ap.r (i := 1) rfl))) rfl (fun Φ_5 D5 q4 => ?_)
  obtain ⟨⟨ap4, fr4⟩, h6⟩ := q4
  replace h5 := h5.frame RTExpr.lasts fr4 (ap4.r (i := 0) rfl) (Dj.nil _)
  refine WL.nil <| WT.seq <| WT.region <| lq (q_move rfl) rfl <| lq (q_add rfl rfl) rfl <| lq (q_assign rfl) rfl <| WL.nil <| WT.seq <| WT.region <| lq (q_move rfl) rfl <| lq (q_move rfl) rfl <| lq (q_move rfl) rfl ?_
  obtain ⟨x4, hx4, h⟩ := bind_some h
  refine lp (p_call Fun_160 rfl (fun w1 hw => m_l_markText_ok hw.fro N (IntKind.i64.wrap (x3.1 + 1)) hx4)) rfl <| lq (q_indexAddrH Sl_47 rfl rfl h6 hx1) rfl <| lq (q_fieldAddr Fld_135_4 rfl) rfl ?_
  refine lu (u_setH (js := [0]) (Rr := [ob v1, D2]) (o := 4) (vs := [.string x4]) (cs' := [.int .i64 s2, .string x2, v1, .int .i64 x3.1, .string x4]) OTAct.lasts Sz_9 rfl rfl rfl rfl ⟨rfl, trivial⟩ rfl h6 rfl rfl (fun ap => (ap.r (i := 1) rfl))) rfl (fun Φ_6 D6 q5 => ?_)
  obtain ⟨⟨ap5, fr5⟩, h7⟩ := q5
  replace h5 := h5.frame RTExpr.lasts fr5 (ap5.r (i := 0) rfl) (Dj.nil _)
  refine WL.nil <| WT.region <| lq (q_move rfl) rfl <| lq (q_add rfl rfl) rfl <| lq (q_assign rfl) rfl <| WL.nil <| WT.inBlock <| WT.region <| lq (q_move rfl) rfl <| lq (q_add rfl rfl) rfl <| lq (q_assign rfl) rfl <| WL.nil ?_
  have r2 : OTAct Φ_6 _ [.int .i64 s2, .string x2, v1, .int .i64 x3.1, .string x4] (⟨s2, x2, x3.2, x3.1, x4⟩ : TAct) := ⟨v1, rfl, rfl, h5⟩
  obtain ⟨D7, h8, sp2⟩ := h7.unfocus r2 (OTAct.knows _ _ _ _ r2)
  refine WT.conv (S' := St w0 Φ_6 [] [D7, ob pv0]) (fun w1 hw => hw.merge (js := [1, 1]) rfl (by simpa [List.append_assoc, ob_nil] using sp2)) ?_
  refine WT.inLoop (WT.mono (l' := [(0, pv0), (1, .int .i64 (IntKind.i64.wrap ((IntKind.i64.wrap (x3.1 + 1)) + 1))), (5, .int .i64 (IntKind.i64.wrap (s3 + 1)))]) (S' := St w0 Φ_6 [] [ob pv0, D7]) ⟨rfl, rfl, rfl, trivial⟩ (fun w1 hw => (hw.sel (js := [1, 0]) rfl).selO (js := []) rfl) ?_)
  exact ih1 (Φ_6, (s1.set s3.toNat (⟨s2, x2, x3.2, x3.1, x4⟩ : TAct)), D7, IntKind.i64.wrap ((IntKind.i64.wrap (x3.1 + 1)) + 1), IntKind.i64.wrap (s3 + 1)) ⟨h, h8⟩
 replace h := ite_f h c1
 refine WT.exit rfl <| WT.seq <| WT.region <| lq (q_move rfl) rfl <| lq (q_assign rfl) rfl <| WL.nil ?_
 refine WT.ret Tryz.func163 (resOk.one rfl) (fun w1 hw => ?_)
 subst hb0
 cases h
 refine postG_of_St (js := [0, 0]) hw rfl ⟨D1, rfl, rfl, k1⟩
theorem m_l_markRuleS_ok {Φ : Hp} {w : World} (hΦ : In Φ w) (N : Nat) (p0 : (List TRule)) (p1 : Int) {pv0 : Value} {pD0 : List Nat} (ph0 : OSl OTRule 49 5 Φ pD0 pv0 p0) (hB : [ob pv0, pD0].flatten.Nodup) (hlt : ∀ k ∈ [ob pv0, pD0].flatten, k < w.heap.size) {r : Int × (List TRule)} (h : m_l_markRuleS N p0 p1 = some r) :
  Calls Tryz.prog 96 [pv0, .int .i64 p1].toArray w (PostG Φ w [ob pv0, pD0].flatten (fun Φ' Fs v => ∃ (Do_0_0 : List Nat), v = .int .i64 r.1 ∧ Fs = [ob pv0, Do_0_0] ∧ OSl OTRule 49 5 Φ' Do_0_0 pv0 r.2)) := by
 refine enter Tryz.func96 rfl Tryz.ntmps96 rfl (St.start hΦ [ob pv0, pD0] hB hlt) ?_
 generalize hb0 : (⟨w, [ob pv0, pD0].flatten, Φ⟩ : Base) = w0
 unfold m_l_markRuleS at h
 refine WT.seq <| WT.region <| lq (q_assign rfl) rfl <| WL.nil <| WT.seq <| WT.seq <| WT.region <| lq (q_assign rfl) rfl <| WL.nil <| WT.block <| WT.loop <| WT.mono (l' := [(0, pv0), (1, .int .i64 p1), (5, .int .i64 0)]) (S' := St w0 Φ [] [ob pv0, pD0]) ⟨rfl, rfl, rfl, trivial⟩ (fun w1 hw => (hw.sel (js := [0, 0]) rfl).selO (js := []) rfl) ?_
 refine loop_ind (σ := Hp × (List TRule) × List Nat × Int × Int) (fun s => [(0, pv0), (1, .int .i64 s.2.2.2.1), (5, .int .i64 s.2.2.2.2)]) (fun s => St w0 s.1 [] [ob pv0, s.2.2.1]) (fun m s => m_l_markRuleS_l1 N m s.2.1 s.2.2.2.1 s.2.2.2.2 = some r ∧ (OSl OTRule 49 5 s.1 s.2.2.1 pv0 s.2.1)) (fun s hm => none_ne (show (none : Option (Int × (List TRule))) = some r from hm.1)) (fun n1 ih1 s hm => ?_) N (Φ, p0, pD0, p1, 0) ⟨h, ph0⟩
 obtain ⟨Φ_1, s1, D1, s2, s3⟩ := s
 obtain ⟨h, k1⟩ := hm
 replace h : m_l_markRuleS_l1 N (n1 + 1) s1 s2 s3 = some r := h
 replace k1 : OSl OTRule 49 5 Φ_1 D1 pv0 s1 := k1
 show WT _ _ [(0, pv0), (1, .int .i64 s2), (5, .int .i64 s3)] (St w0 Φ_1 [] [ob pv0, D1])
 unfold m_l_markRuleS_l1 at h
 refine WT.seq <| WT.seq <| WT.region <| lq (q_move rfl) rfl <| lq (q_move rfl) rfl <| lq (q_lenR Sl_28 rfl rfl (k1.rslG OTRule.gives)) rfl <| lq (q_lss rfl rfl) rfl <| WL.nil ?_
 refine WT.cond rfl (fun c1 => ?_) (fun c1 => ?_)
 ·replace h := ite_t h c1
  refine WT.skip <| WT.seq <| WT.block <| WT.seq <| WT.region <| lq (q_move rfl) rfl <| lq (q_move rfl) rfl <| lq (q_move rfl) rfl ?_
  obtain ⟨x1, hx1, h⟩ := bind_some h
  refine lp (p_call Fun_160 rfl (fun w1 hw => m_l_markText_ok hw.fro N s2 hx1)) rfl ?_
  obtain ⟨x2, hx2, h⟩ := bind_some h
  obtain ⟨cs1, F1, D2, h1, r1, kf1, sp1⟩ := k1.focus hx2
  obtain ⟨v1, D3, v2, v3, D4, rfl, rfl, h2, h3, h4⟩ := r1
  refine WL.conv (S' := St w0 Φ_1 [] [ob v1, D3, ob v2, ob v3, D4, D2, ob pv0]) (fun w1 hw => hw.re (js := [1]) (Bs := [ob v1, D3, ob v2, ob v3, D4, D2]) rfl (by simpa [List.append_assoc] using sp1)) <| lq (q_indexAddrH Sl_28 rfl rfl h1 hx2) rfl <| lq (q_fieldAddr Fld_49_0 rfl) rfl ?_
  refine lu (u_setH (js := [6]) (Rr := [ob v1, D3, ob v2, ob v3, D4, D2]) (o := 0) (vs := [.string x1]) (cs' := [.string x1, .int .i64 x2.Sal, v1, v2, v3]) OTRule.lasts Sz_9 rfl rfl rfl rfl ⟨rfl, trivial⟩ rfl h1 rfl rfl (fun ap => (ap.r (i := 5) rfl))) rfl (fun Φ_2 D5 q1 => ?_)
  obtain ⟨⟨ap1, fr1⟩, h5⟩ := q1
  replace h2 := h2.frame OTPat.lasts fr1 (ap1.r (i := 0) rfl) (ap1.r (i := 1) rfl)
  replace h3 := h3.frame RTCond.lasts fr1 (ap1.r (i := 2) rfl) (Dj.nil _)
  replace h4 := h4.frame OTAct.lasts fr1 (ap1.r (i := 3) rfl) (ap1.r (i := 4) rfl)
  refine WL.nil <| WT.seq <| WT.region <| lq (q_move rfl) rfl <| lq (q_add rfl rfl) rfl <| lq (q_assign rfl) rfl <| WL.nil <| WT.seq <| WT.region <| lq (q_move rfl) rfl <| lq (q_move rfl) rfl <| lq (q_move rfl) rfl <| lq (q_indexAddrH Sl_28 rfl rfl h5 hx2) rfl <| lq (q_fieldAddr Fld_49_1 rfl) rfl ?_
  refine lu (u_setH (js := [0]) (Rr := [ob v1, D3, ob v2, ob v3, D4, D2]) (o := 1) (vs := [.int .i64 (IntKind.i64.wrap (s2 + 1))]) (cs' := [.string x1, .int .i64 (IntKind.i64.wrap (s2 + 1)), v1, v2, v3]) OTRule.lasts Sz_3 rfl rfl rfl rfl ⟨rfl, trivial⟩ rfl h5 rfl rfl (fun ap => (ap.r (i := 5) rfl))) rfl (fun Φ_3 D6 q2 => ?_)
  obtain ⟨⟨ap2, fr2⟩, h6⟩ := q2
  replace h2 := h2.frame OTPat.lasts fr2 (ap2.r (i := 0) rfl) (ap2.r (i := 1) rfl)
  replace h3 := h3.frame RTCond.lasts fr2 (ap2.r (i := 2) rfl) (Dj.nil _)
  replace h4 := h4.frame OTAct.lasts fr2 (ap2.r (i := 3) rfl) (ap2.r (i := 4) rfl)
  refine WL.nil <| WT.seq <| WT.region <| lq (q_move rfl) rfl <| lq (q_add rfl rfl) rfl <| lq (q_assign rfl) rfl <| WL.nil <| WT.seq <| WT.region <| lq (q_move rfl) rfl <| lq (q_move rfl) rfl <| lq (q_indexAddrH Sl_28 rfl rfl h6 hx2) rfl <| lq (q_fieldAddr Fld_49_2 rfl) rfl <| lq (q_load1 T1_45 rfl (fun w1 hw => (h6.rg.of_eq 2 1 rfl rfl : rg _ _ _ [v1]).rangeAt hw.fro)) rfl <| lq (q_move rfl) rfl ?_
  obtain ⟨x3, hx3, h⟩ := bind_some h
  refine lc (k_call (js := [1, 1]) (R := [ob pv0, ob v2, ob v3, D4, D2]) Fun_161 rfl rfl (fun w1 hw ap hl => m_l_markPatS_ok hw.fro N x2.Pats (IntKind.i64.wrap ((IntKind.i64.wrap (s2 + 1)) + 1)) h2 ap.nd hl hx3)) rfl (fun v4 Φ_4 F2 q3 => ?_)
  obtain ⟨ap3, fr3, D7, rfl, rfl, h7⟩ := q3
  replace h6 := h6.frame OTRule.lasts fr3 (ap3.r (i := 0) rfl) (ap3.r (i := 4) rfl)
  replace h3 := h3.frame RTCond.lasts fr3 (ap3.r (i := 1) rfl) (Dj.nil _)
  replace h4 := h4.frame OTAct.lasts fr3 (ap3.r (i := 2) rfl) (ap3.r (i := 3) rfl)
  refine lq (q_assign rfl) rfl <| WL.nil <| WT.seq <| WT.region <| lq (q_move rfl) rfl <| lq (q_move rfl) rfl <| lq (q_indexAddrH Sl_28 rfl rfl h6 hx2) rfl <| lq (q_fieldAddr Fld_49_3 rfl) rfl <| lq (q_load1 T1_46 rfl (fun w1 hw => (h6.rg.of_eq 3 1 rfl rfl : rg _ _ _ [v2]).rangeAt hw.fro)) rfl <| lq (q_move rfl) rfl ?_
  obtain ⟨x4, hx4, h⟩ := bind_some h
  refine lc (k_call (js := [3]) (R := [ob v1, D7, ob pv0, ob v3, D4, D2]) Fun_162 rfl rfl (fun w1 hw ap hl => m_l_markCondS_ok hw.fro N x2.Conds x3.1 h3 ap.nd hl hx4)) rfl (fun v5 Φ_5 F3 q4 => ?_)
  obtain ⟨ap4, fr4, rfl, rfl, h8⟩ := q4
  replace h6 := h6.frame OTRule.lasts fr4 (ap4.r (i := 2) rfl) (ap4.r (i := 5) rfl)
  replace h7 := h7.frame OTPat.lasts fr4 (ap4.r (i := 0) rfl) (ap4.r (i := 1) rfl)
  replace h4 := h4.frame OTAct.lasts fr4 (ap4.r (i := 3) rfl) (ap4.r (i := 4) rfl)
  refine lq (q_assign rfl) rfl <| WL.nil <| WT.region <| lq (q_move rfl) rfl <| lq (q_move rfl) rfl <| lq (q_indexAddrH Sl_28 rfl rfl h6 hx2) rfl <| lq (q_fieldAddr Fld_49_4 rfl) rfl <| lq (q_load1 T1_47 rfl (fun w1 hw => (h6.rg.of_eq 4 1 rfl rfl : rg _ _ _ [v3]).rangeAt hw.fro)) rfl <| lq (q_move rfl) rfl ?_
  obtain ⟨x5, hx5, h⟩ := bind_some h
  refine lc (k_call (js := [4, 4]) (R := [ob v2, ob v1, D7, ob pv0, D2]) Fun_163 rfl rfl (fun w1 hw ap hl => m_l_markActS_ok hw.fro N x2.Acts x4.1 h4 ap.nd hl hx5)) rfl (fun v6 Φ_6 F4 q5 => ?_)
  obtain ⟨ap5, fr5, D8, rfl, rfl, h9⟩ := q5
  replace h6 := h6.frame OTRule.lasts fr5 (ap5.r (i := 3) rfl) (ap5.r (i := 4) rfl)
  replace h7 := h7.frame OTPat.lasts fr5 (ap5.r (i := 1) rfl) (ap5.r (i := 2) rfl)
  replace h8 := h8.frame RTCond.lasts fr5 (ap5.r (i := 0) rfl) (Dj.nil _)
  refine lq (q_assign rfl) rfl <| WL.nil <| WT.inBlock <| WT.region <| lq (q_move rfl) rfl <| lq (q_add rfl rfl) rfl <| lq (q_assign rfl) rfl <| WL.nil ?_
  have r2 : OTRule Φ_6 _ [.string x1, .int .i64 (IntKind.i64.wrap (s2 + 1)), v1, v2, v3] (⟨x1, IntKind.i64.wrap (s2 + 1), x3.2, x4.2, x5.2⟩ : TRule) := ⟨v1, D7, v2, v3, D8, rfl, rfl, h7, h8, h9⟩
  obtain ⟨D9, h10, sp2⟩ := h6.unfocus r2 (OTRule.knows _ _ _ _ r2)
  refine WT.conv (S' := St w0 Φ_6 [] [D9, ob pv0]) (fun w1 hw => hw.merge (js := [3, 3, 2, 0, 0, 1]) rfl (by simpa [List.append_assoc, ob_nil] using sp2)) ?_
  refine WT.inLoop (WT.mono (l' := [(0, pv0), (1, .int .i64 x5.1), (5, .int .i64 (IntKind.i64.wrap (s3 + 1)))]) (S' := St w0 Φ_6 [] [ob pv0, D9]) ⟨rfl, rfl, rfl, trivial⟩ (fun w1 hw => (hw.sel (js := [1, 0]) rfl).selO (js := []) rfl) ?_)
  exact ih1 (Φ_6, (s1.set s3.toNat (⟨x1, IntKind.i64.wrap (s2 + 1), x3.2, x4.2, x5.2⟩ : TRule)), D9, x5.1, IntKind.i64.wrap (s3 + 1)) ⟨h, h10⟩
 replace h := ite_f h c1
 refine WT.exit rfl <| WT.seq <| WT.region <| lq (q_move rfl) rfl <| lq (q_assign rfl) rfl <| WL.nil ?_
 refine WT.ret Tryz.func96 (resOk.one rfl) (fun w1 hw => ?_)
 subst hb0
 cases h
 refine postG_of_St (js := [0, 0]) hw rfl ⟨D1, rfl, rfl, k1⟩
theorem m_l_markDef_ok {Φ : Hp} {w : World} (hΦ : In Φ w) (N : Nat) (p0 : TDef) (p1 : Int) {pv0_0 : Value} {pD0_0 : List Nat} (ph0_0 : OSl OTRule 49 5 Φ pD0_0 pv0_0 p0.Rules) (hB : [ob pv0_0, pD0_0].flatten.Nodup) (hlt : ∀ k ∈ [ob pv0_0, pD0_0].flatten, k < w.heap.size) {r : Int × (List TRule)} (h : m_l_markDef N p0 p1 = some r) :
  Calls Tryz.prog 41 [.agg [.string p0.Name, pv0_0].toArray, .int .i64 p1].toArray w (PostG Φ w [ob pv0_0, pD0_0].flatten (fun Φ' Fs v => ∃ (Do_0_0 : List Nat), v = .int .i64 r.1 ∧ Fs = [ob pv0_0, Do_0_0] ∧ OSl OTRule 49 5 Φ' Do_0_0 pv0_0 r.2)) := by
 refine enter Tryz.func41 rfl Tryz.ntmps41 rfl (St.start hΦ [ob pv0_0, pD0_0] hB hlt) ?_
 unfold m_l_markDef at h
 refine WT.seq <| WT.region ?_
 refine ln (n_box (C := #[.string p0.Name, pv0_0]) rfl rfl) rfl (fun b_1 => ?_)
 refine lq (q_assign rfl) rfl <| WL.nil <| WT.seq <| WT.region <| lq (q_fieldAddr Fld_30_1 rfl) rfl <| lq (q_load1 T1_28 rfl (fun w1 hw => hw.rgO (i := 0) rfl 1 1 [pv0_0] rfl)) rfl <| lq (q_move rfl) rfl ?_
 obtain ⟨x1, hx1, h⟩ := bind_some h
 refine lc (k_call (js := [0, 0]) (R := []) Fun_96 rfl rfl (fun w1 hw ap hl => m_l_markRuleS_ok hw.fro N p0.Rules p1 ph0_0 ap.nd hl hx1)) rfl (fun v1 Φ_1 F1 q1 => ?_)
 obtain ⟨ap1, fr1, D1, rfl, rfl, h1⟩ := q1
 refine lq (q_assign rfl) rfl <| WL.nil <| WT.seq <| WT.region <| lq (q_move rfl) rfl <| lq (q_assign rfl) rfl <| WL.nil ?_
 refine WT.ret Tryz.func41 (resOk.one rfl) (fun w1 hw => ?_)
 cases h
 refine postG_of_St (js := [0, 0]) hw rfl ⟨D1, rfl, rfl, h1⟩
theorem m_l_markValS_ok {Φ : Hp} {w : World} (hΦ : In Φ w) (N : Nat) (p0 : (List TVal)) (p1 : Int) {pv0 : Value} (ph0 : OSl RTVal 121 3 Φ [] pv0 p0) (hB : [ob pv0].flatten.Nodup) (hlt : ∀ k ∈ [ob pv0].flatten, k < w.heap.size) {r : Int × (List TVal)} (h : m_l_markValS N p0 p1 = some r) :
  Calls Tryz.prog 164 [pv0, .int .i64 p1].toArray w (PostG Φ w [ob pv0].flatten (fun Φ' Fs v => v = .int .i64 r.1 ∧ Fs = [ob pv0] ∧ OSl RTVal 121 3 Φ' [] pv0 r.2)) := by
 refine enter Tryz.func164 rfl Tryz.ntmps164 rfl (St.start hΦ [ob pv0] hB hlt) ?_
 generalize hb0 : (⟨w, [ob pv0].flatten, Φ⟩ : Base) = w0
 unfold m_l_markValS at h
 refine WT.seq <| WT.region <| lq (q_assign rfl) rfl <| WL.nil <| WT.seq <| WT.seq <| WT.region <| lq (q_assign rfl) rfl <| WL.nil <| WT.block <| WT.loop <| WT.mono (l' := [(0, pv0), (1, .int .i64 p1), (5, .int .i64 0)]) (S' := St w0 Φ [] [ob pv0]) ⟨rfl, rfl, rfl, trivial⟩ (fun w1 hw => (hw.sel (js := [0]) rfl).selO (js := []) rfl) ?_
 refine loop_ind (σ := Hp × (List TVal) × Int × Int) (fun s => [(0, pv0), (1, .int .i64 s.2.2.1), (5, .int .i64 s.2.2.2)]) (fun s => St w0 s.1 [] [ob pv0]) (fun m s => m_l_markValS_l1 N m s.2.1 s.2.2.1 s.2.2.2 = some r ∧ (OSl RTVal 121 3 s.1 [] pv0 s.2.1)) (fun s hm => none_ne (show (none : Option (Int × (List TVal))) = some r from hm.1)) (fun n1 ih1 s hm => ?_) N (Φ, p0, p1, 0) ⟨h, ph0⟩
 obtain ⟨Φ_1, s1, s2, s3⟩ := s
 obtain ⟨h, k1⟩ := hm
 replace h : m_l_markValS_l1 N (n1 + 1) s1 s2 s3 = some r := h
 replace k1 : OSl RTVal 121 3 Φ_1 [] pv0 s1 := k1
 show WT _ _ [(0, pv0), (1, .int .i64 s2), (5, .int .i64 s3)] (St w0 Φ_1 [] [ob pv0])
 unfold m_l_markValS_l1 at h
 refine WT.seq <| WT.seq <| WT.region <| lq (q_move rfl) rfl <| lq (q_move rfl) rfl <| lq (q_lenR Sl_100 rfl rfl k1.rsl) rfl <| lq (q_lss rfl rfl) rfl <| WL.nil ?_
 refine WT.cond rfl (fun c1 => ?_) (fun c1 => ?_)
 ·replace h := ite_t h c1
  refine WT.skip <| WT.seq <| WT.block <| WT.seq <| WT.region <| lq (q_move rfl) rfl <| lq (q_move rfl) rfl <| lq (q_move rfl) rfl ?_
  obtain ⟨x1, hx1, h⟩ := bind_some h
  obtain ⟨cs1, F1, h1, r1⟩ := k1.focusF RTVal.flat hx1
  obtain ⟨rfl, -⟩ := r1
  refine lq (q_indexAddrH Sl_100 rfl rfl h1 hx1) rfl <| lq (q_fieldAddr Fld_121_0 rfl) rfl ?_
  refine lu (u_setH (js := [0]) (Rr := []) (o := 0) (vs := [.int .i64 s2]) (cs' := [.int .i64 s2, .int .i64 x1.N, .string x1.S]) RTVal.lasts Sz_3 rfl rfl rfl rfl ⟨rfl, trivial⟩ rfl h1 rfl rfl (fun ap => (Dj.nil _))) rfl (fun Φ_2 D2 q1 => ?_)
  obtain ⟨⟨ap1, fr1⟩, h2⟩ := q1
  refine WL.nil <| WT.seq <| WT.region <| lq (q_move rfl) rfl <| lq (q_add rfl rfl) rfl <| lq (q_assign rfl) rfl <| WL.nil <| WT.seq <| WT.region <| lq (q_move rfl) rfl <| lq (q_move rfl) rfl <| lq (q_move rfl) rfl <| lq (q_indexAddrH Sl_100 rfl rfl h2 hx1) rfl <| lq (q_fieldAddr Fld_121_1 rfl) rfl ?_
  refine lu (u_setH (js := [0]) (Rr := []) (o := 1) (vs := [.int .i64 (IntKind.i64.wrap (s2 + 1))]) (cs' := [.int .i64 s2, .int .i64 (IntKind.i64.wrap (s2 + 1)), .string x1.S]) RTVal.lasts Sz_3 rfl rfl rfl rfl ⟨rfl, trivial⟩ rfl h2 rfl rfl (fun ap => (Dj.nil _))) rfl (fun Φ_3 D3 q2 => ?_)
  obtain ⟨⟨ap2, fr2⟩, h3⟩ := q2
  refine WL.nil <| WT.seq <| WT.region <| lq (q_move rfl) rfl <| lq (q_add rfl rfl) rfl <| lq (q_assign rfl) rfl <| WL.nil <| WT.seq <| WT.region <| lq (q_move rfl) rfl <| lq (q_move rfl) rfl <| lq (q_move rfl) rfl ?_
  obtain ⟨x2, hx2, h⟩ := bind_some h
  refine lp (p_call Fun_160 rfl (fun w1 hw => m_l_markText_ok hw.fro N (IntKind.i64.wrap ((IntKind.i64.wrap (s2 + 1)) + 1)) hx2)) rfl <| lq (q_indexAddrH Sl_100 rfl rfl h3 hx1) rfl <| lq (q_fieldAddr Fld_121_2 rfl) rfl ?_
  refine lu (u_setH (js := [0]) (Rr := []) (o := 2) (vs := [.string x2]) (cs' := [.int .i64 s2, .int .i64 (IntKind.i64.wrap (s2 + 1)), .string x2]) RTVal.lasts Sz_9 rfl rfl rfl rfl ⟨rfl, trivial⟩ rfl h3 rfl rfl (fun ap => (Dj.nil _))) rfl (fun Φ_4 D4 q3 => ?_)
  obtain ⟨⟨ap3, fr3⟩, h4⟩ := q3
  refine WL.nil <| WT.region <| lq (q_move rfl) rfl <| lq (q_add rfl rfl) rfl <| lq (q_assign rfl) rfl <| WL.nil <| WT.inBlock <| WT.region <| lq (q_move rfl) rfl <| lq (q_add rfl rfl) rfl <| lq (q_assign rfl) rfl <| WL.nil ?_
  have h5 := h4.unfocusF RTVal.flat (cs := [.int .i64 s2, .int .i64 (IntKind.i64.wrap (s2 + 1)), .string x2]) (x' := (⟨s2, IntKind.i64.wrap (s2 + 1), x2⟩ : TVal)) ⟨rfl, rfl⟩
  refine WT.inLoop (WT.mono (l' := [(0, pv0), (1, .int .i64 (IntKind.i64.wrap ((IntKind.i64.wrap ((IntKind.i64.wrap (s2 + 1)) + 1)) + 1))), (5, .int .i64 (IntKind.i64.wrap (s3 + 1)))]) (S' := St w0 Φ_4 [] [ob pv0]) ⟨rfl, rfl, rfl, trivial⟩ (fun w1 hw => (hw.sel (js := [0]) rfl).selO (js := []) rfl) ?_)
  exact ih1 (Φ_4, (s1.set s3.toNat (⟨s2, IntKind.i64.wrap (s2 + 1), x2⟩ : TVal)), IntKind.i64.wrap ((IntKind.i64.wrap ((IntKind.i64.wrap (s2 + 1)) + 1)) + 1), IntKind.i64.wrap (s3 + 1)) ⟨h, h5⟩
 replace h := ite_f h c1
 refine WT.exit rfl <| WT.seq <| WT.region <| lq (q_move rfl) rfl <| lq (q_assign rfl) rfl <| WL.nil ?_
 refine WT.ret Tryz.func164 (resOk.one rfl) (fun w1 hw => ?_)
 subst hb0
 cases h
 refine postG_of_St (js := [0]) hw rfl ⟨rfl, rfl, k1⟩
theorem m_l_markIntS_ok {Φ : Hp} {w : World} (hΦ : In Φ w) (N : Nat) (p0 : (List Int)) (p1 : Int) {pv0 : Value} (ph0 : OSl (RI .i64) 3 1 Φ [] pv0 p0) (hB : [ob pv0].flatten.Nodup) (hlt : ∀ k ∈ [ob pv0].flatten, k < w.heap.size) {r : Int × (List Int)} (h : m_l_markIntS N p0 p1 = some r) :
  Calls Tryz.prog 165 [pv0, .int .i64 p1].toArray w (PostG Φ w [ob pv0].flatten (fun Φ' Fs v => v = .int .i64 r.1 ∧ Fs = [ob pv0] ∧ OSl (RI .i64) 3 1 Φ' [] pv0 r.2)) := by
 refine enter Tryz.func165 rfl Tryz.ntmps165 rfl (St.start hΦ [ob pv0] hB hlt) ?_
 generalize hb0 : (⟨w, [ob pv0].flatten, Φ⟩ : Base) = w0
 unfold m_l_markIntS at h
 refine WT.seq <| WT.region <| lq (q_assign rfl) rfl <| WL.nil <| WT.seq <| WT.seq <| WT.region <| lq (q_assign rfl) rfl <| WL.nil <| WT.block <| WT.loop <| WT.mono (l' := [(0, pv0), (1, .int .i64 p1), (5, .int .i64 0)]) (S' := St w0 Φ [] [ob pv0]) ⟨rfl, rfl, rfl, trivial⟩ (fun w1 hw => (hw.sel (js := [0]) rfl).selO (js := []) rfl) ?_
 refine loop_ind (σ := Hp × (List Int) × Int × Int) (fun s => [(0, pv0), (1, .int .i64 s.2.2.1), (5, .int .i64 s.2.2.2)]) (fun s => St w0 s.1 [] [ob pv0]) (fun m s => m_l_markIntS_l1 N m s.2.1 s.2.2.1 s.2.2.2 = some r ∧ (OSl (RI .i64) 3 1 s.1 [] pv0 s.2.1)) (fun s hm => none_ne (show (none : Option (Int × (List Int))) = some r from hm.1)) (fun n1 ih1 s hm => ?_) N (Φ, p0, p1, 0) ⟨h, ph0⟩
 obtain ⟨Φ_1, s1, s2, s3⟩ := s
 obtain ⟨h, k1⟩ := hm
 replace h : m_l_markIntS_l1 N (n1 + 1) s1 s2 s3 = some r := h
 replace k1 : OSl (RI .i64) 3 1 Φ_1 [] pv0 s1 := k1
 show WT _ _ [(0, pv0), (1, .int .i64 s2), (5, .int .i64 s3)] (St w0 Φ_1 [] [ob pv0])
 unfold m_l_markIntS_l1 at h
 refine WT.seq <| WT.seq <| WT.region <| lq (q_move rfl) rfl <| lq (q_move rfl) rfl <| lq (q_lenR Sl_41 rfl rfl k1.rsl) rfl <| lq (q_lss rfl rfl) rfl <| WL.nil ?_
 refine WT.cond rfl (fun c1 => ?_) (fun c1 => ?_)
 ·replace h := ite_t h c1
  refine WT.skip <| WT.seq <| WT.block <| WT.seq <| WT.region <| lq (q_move rfl) rfl <| lq (q_move rfl) rfl <| lq (q_move rfl) rfl ?_
  obtain ⟨x1, hx1, h⟩ := bind_some h
  obtain ⟨cs1, F1, -, g1, hb1, hs1, r1⟩ := k1.elS (idx_some hx1).2.2
  obtain ⟨rfl, -⟩ := r1
  refine lq (q_indexAddr Sl_41 rfl rfl k1.rsl hx1) rfl ?_
  refine lu (u_setF (js := [0]) (Rr := []) (vs := [.int .i64 s2]) (x' := s2) RI.lasts RI.flat Sz_3 rfl rfl rfl rfl ⟨rfl, trivial⟩ rfl k1 (idx_lt hx1) ⟨rfl, rfl⟩) rfl (fun Φ_2 D1 q1 => ?_)
  obtain ⟨⟨ap1, fr1⟩, h1⟩ := q1
  refine WL.nil <| WT.region <| lq (q_move rfl) rfl <| lq (q_add rfl rfl) rfl <| lq (q_assign rfl) rfl <| WL.nil <| WT.inBlock <| WT.region <| lq (q_move rfl) rfl <| lq (q_add rfl rfl) rfl <| lq (q_assign rfl) rfl <| WL.nil ?_
  refine WT.inLoop (WT.mono (l' := [(0, pv0), (1, .int .i64 (IntKind.i64.wrap (s2 + 1))), (5, .int .i64 (IntKind.i64.wrap (s3 + 1)))]) (S' := St w0 Φ_2 [] [ob pv0]) ⟨rfl, rfl, rfl, trivial⟩ (fun w1 hw => (hw.sel (js := [0]) rfl).selO (js := []) rfl) ?_)
  exact ih1 (Φ_2, (s1.set s3.toNat s2), IntKind.i64.wrap (s2 + 1), IntKind.i64.wrap (s3 + 1)) ⟨h, h1⟩
 replace h := ite_f h c1
 refine WT.exit rfl <| WT.seq <| WT.region <| lq (q_move rfl) rfl <| lq (q_assign rfl) rfl <| WL.nil ?_
 refine WT.ret Tryz.func165 (resOk.one rfl) (fun w1 hw => ?_)
 subst hb0
 cases h
 refine postG_of_St (js := [0]) hw rfl ⟨rfl, rfl, k1⟩
theorem m_l_markAlphaS_ok {Φ : Hp} {w : World} (hΦ : In Φ w) (N : Nat) (p0 : (List TAlpha)) (p1 : Int) {pv0 : Value} {pD0 : List Nat} (ph0 : OSl OTAlpha 102 4 Φ pD0 pv0 p0) (hB : [ob pv0, pD0].flatten.Nodup) (hlt : ∀ k ∈ [ob pv0, pD0].flatten, k < w.heap.size) {r : Int × (List TAlpha)} (h : m_l_markAlphaS N p0 p1 = some r) :
  Calls Tryz.prog 97 [pv0, .int .i64 p1].toArray w (PostG Φ w [ob pv0, pD0].flatten (fun Φ' Fs v => ∃ (Do_0_0 : List Nat), v = .int .i64 r.1 ∧ Fs = [ob pv0, Do_0_0] ∧ OSl OTAlpha 102 4 Φ' Do_0_0 pv0 r.2)) := by
 refine enter Tryz.func97 rfl Tryz.ntmps97 rfl (St.start hΦ [ob pv0, pD0] hB hlt) ?_
 generalize hb0 : (⟨w, [ob pv0, pD0].flatten, Φ⟩ : Base) = w0
 unfold m_l_markAlphaS at h
 refine WT.seq <| WT.region <| lq (q_assign rfl) rfl <| WL.nil <| WT.seq <| WT.seq <| WT.region <| lq (q_assign rfl) rfl <| WL.nil <| WT.block <| WT.loop <| WT.mono (l' := [(0, pv0), (1, .int .i64 p1), (5, .int .i64 0)]) (S' := St w0 Φ [] [ob pv0, pD0]) ⟨rfl, rfl, rfl, trivial⟩ (fun w1 hw => (hw.sel (js := [0, 0]) rfl).selO (js := []) rfl) ?_
 refine loop_ind (σ := Hp × (List TAlpha) × List Nat × Int × Int) (fun s => [(0, pv0), (1, .int .i64 s.2.2.2.1), (5, .int .i64 s.2.2.2.2)]) (fun s => St w0 s.1 [] [ob pv0, s.2.2.1]) (fun m s => m_l_markAlphaS_l1 N m s.2.1 s.2.2.2.1 s.2.2.2.2 = some r ∧ (OSl OTAlpha 102 4 s.1 s.2.2.1 pv0 s.2.1)) (fun s hm => none_ne (show (none : Option (Int × (List TAlpha))) = some r from hm.1)) (fun n1 ih1 s hm => ?_) N (Φ, p0, pD0, p1, 0) ⟨h, ph0⟩
 obtain ⟨Φ_1, s1, D1, s2, s3⟩ := s
 obtain ⟨h, k1⟩ := hm
 replace h : m_l_markAlphaS_l1 N (n1 + 1) s1 s2 s3 = some r := h
 replace k1 : OSl OTAlpha 102 4 Φ_1 D1 pv0 s1 := k1
 show WT _ _ [(0, pv0), (1, .int .i64 s2), (5, .int .i64 s3)] (St w0 Φ_1 [] [ob pv0, D1])
 unfold m_l_markAlphaS_l1 at h
 refine WT.seq <| WT.seq <| WT.region <| lq (q_move rfl) rfl <| lq (q_move rfl) rfl <| lq (q_lenR Sl_24 rfl rfl (k1.rslG OTAlpha.gives)) rfl <| lq (q_lss rfl rfl) rfl <| WL.nil ?_
 refine WT.cond rfl (fun c1 => ?_) (fun c1 => ?_)
 ·replace h := ite_t h c1
  refine WT.skip <| WT.seq <| WT.block <| WT.seq <| WT.region <| lq (q_move rfl) rfl <| lq (q_move rfl) rfl <| lq (q_move rfl) rfl ?_
  obtain ⟨x1, hx1, h⟩ := bind_some h
  refine lp (p_call Fun_160 rfl (fun w1 hw => m_l_markText_ok hw.fro N s2 hx1)) rfl ?_
  obtain ⟨x2, hx2, h⟩ := bind_some h
  obtain ⟨cs1, F1, D2, h1, r1, kf1, sp1⟩ := k1.focus hx2
  obtain ⟨v1, v2, rfl, rfl, h2, h3⟩ := r1
  refine WL.conv (S' := St w0 Φ_1 [] [ob v1, ob v2, D2, ob pv0]) (fun w1 hw => hw.re (js := [1]) (Bs := [ob v1, ob v2, D2]) rfl (by simpa [List.append_assoc] using sp1)) <| lq (q_indexAddrH Sl_24 rfl rfl h1 hx2) rfl <| lq (q_fieldAddr Fld_102_0 rfl) rfl ?_
  refine lu (u_setH (js := [3]) (Rr := [ob v1, ob v2, D2]) (o := 0) (vs := [.string x1]) (cs' := [.string x1, .int .i64 x2.N, v1, v2]) OTAlpha.lasts Sz_9 rfl rfl rfl rfl ⟨rfl, trivial⟩ rfl h1 rfl rfl (fun ap => (ap.r (i := 2) rfl))) rfl (fun Φ_2 D3 q1 => ?_)
  obtain ⟨⟨ap1, fr1⟩, h4⟩ := q1
  replace h2 := h2.frame RTVal.lasts fr1 (ap1.r (i := 0) rfl) (Dj.nil _)
  replace h3 := h3.frame RI.lasts fr1 (ap1.r (i := 1) rfl) (Dj.nil _)
  refine WL.nil <| WT.seq <| WT.region <| lq (q_move rfl) rfl <| lq (q_add rfl rfl) rfl <| lq (q_assign rfl) rfl <| WL.nil <| WT.seq <| WT.region <| lq (q_move rfl) rfl <| lq (q_move rfl) rfl <| lq (q_move rfl) rfl <| lq (q_indexAddrH Sl_24 rfl rfl h4 hx2) rfl <| lq (q_fieldAddr Fld_102_1 rfl) rfl ?_
  refine lu (u_setH (js := [0]) (Rr := [ob v1, ob v2, D2]) (o := 1) (vs := [.int .i64 (IntKind.i64.wrap (s2 + 1))]) (cs' := [.string x1, .int .i64 (IntKind.i64.wrap (s2 + 1)), v1, v2]) OTAlpha.lasts Sz_3 rfl rfl rfl rfl ⟨rfl, trivial⟩ rfl h4 rfl rfl (fun ap => (ap.r (i := 2) rfl))) rfl (fun Φ_3 D4 q2 => ?_)
  obtain ⟨⟨ap2, fr2⟩, h5⟩ := q2
  replace h2 := h2.frame RTVal.lasts fr2 (ap2.r (i := 0) rfl) (Dj.nil _)
  replace h3 := h3.frame RI.lasts fr2 (ap2.r (i := 1) rfl) (Dj.nil _)
  refine WL.nil <| WT.seq <| WT.region <| lq (q_move rfl) rfl <| lq (q_add rfl rfl) rfl <| lq (q_assign rfl) rfl <| WL.nil <| WT.seq <| WT.region <| lq (q_move rfl) rfl <| lq (q_move rfl) rfl <| lq (q_indexAddrH Sl_24 rfl rfl h5 hx2) rfl <| lq (q_fieldAddr Fld_102_2 rfl) rfl <| lq (q_load1 T1_100 rfl (fun w1 hw => (h5.rg.of_eq 2 1 rfl rfl : rg _ _ _ [v1]).rangeAt hw.fro)) rfl <| lq (q_move rfl) rfl ?_
  obtain ⟨x3, hx3, h⟩ := bind_some h
  refine lc (k_call (js := [1]) (R := [ob pv0, ob v2, D2]) Fun_164 rfl rfl (fun w1 hw ap hl => m_l_markValS_ok hw.fro N x2.Consts (IntKind.i64.wrap ((IntKind.i64.wrap (s2 + 1)) + 1)) h2 ap.nd hl hx3)) rfl (fun v3 Φ_4 F2 q3 => ?_)
  obtain ⟨ap3, fr3, rfl, rfl, h6⟩ := q3
  replace h5 := h5.frame OTAlpha.lasts fr3 (ap3.r (i := 0) rfl) (ap3.r (i := 2) rfl)
  replace h3 := h3.frame RI.lasts fr3 (ap3.r (i := 1) rfl) (Dj.nil _)
  refine lq (q_assign rfl) rfl <| WL.nil <| WT.region <| lq (q_move rfl) rfl <| lq (q_move rfl) rfl <| lq (q_indexAddrH Sl_24 rfl rfl h5 hx2) rfl <| lq (q_fieldAddr Fld_102_3 rfl) rfl <| lq (q_load1 T1_41 rfl (fun w1 hw => (h5.rg.of_eq 3 1 rfl rfl : rg _ _ _ [v2]).rangeAt hw.fro)) rfl <| lq (q_move rfl) rfl ?_
  obtain ⟨x4, hx4, h⟩ := bind_some h
  refine lc (k_call (js := [2]) (R := [ob v1, ob pv0, D2]) Fun_165 rfl rfl (fun w1 hw ap hl => m_l_markIntS_ok hw.fro N x2.At x3.1 h3 ap.nd hl hx4)) rfl (fun v4 Φ_5 F3 q4 => ?_)
  obtain ⟨ap4, fr4, rfl, rfl, h7⟩ := q4
  replace h5 := h5.frame OTAlpha.lasts fr4 (ap4.r (i := 1) rfl) (ap4.r (i := 2) rfl)
  replace h6 := h6.frame RTVal.lasts fr4 (ap4.r (i := 0) rfl) (Dj.nil _)
  refine lq (q_assign rfl) rfl <| WL.nil <| WT.inBlock <| WT.region <| lq (q_move rfl) rfl <| lq (q_add rfl rfl) rfl <| lq (q_assign rfl) rfl <| WL.nil ?_
  have r2 : OTAlpha Φ_5 _ [.string x1, .int .i64 (IntKind.i64.wrap (s2 + 1)), v1, v2] (⟨x1, IntKind.i64.wrap (s2 + 1), x3.2, x4.2⟩ : TAlpha) := ⟨v1, v2, rfl, rfl, h6, h7⟩
  obtain ⟨D5, h8, sp2⟩ := h5.unfocus r2 (OTAlpha.knows _ _ _ _ r2)
  refine WT.conv (S' := St w0 Φ_5 [] [D5, ob pv0]) (fun w1 hw => hw.merge (js := [1, 0, 1]) rfl (by simpa [List.append_assoc, ob_nil] using sp2)) ?_
  refine WT.inLoop (WT.mono (l' := [(0, pv0), (1, .int .i64 x4.1), (5, .int .i64 (IntKind.i64.wrap (s3 + 1)))]) (S' := St w0 Φ_5 [] [ob pv0, D5]) ⟨rfl, rfl, rfl, trivial⟩ (fun w1 hw => (hw.sel (js := [1, 0]) rfl).selO (js := []) rfl) ?_)
  exact ih1 (Φ_5, (s1.set s3.toNat (⟨x1, IntKind.i64.wrap (s2 + 1), x3.2, x4.2⟩ : TAlpha)), D5, x4.1, IntKind.i64.wrap (s3 + 1)) ⟨h, h8⟩
 replace h := ite_f h c1
 refine WT.exit rfl <| WT.seq <| WT.region <| lq (q_move rfl) rfl <| lq (q_assign rfl) rfl <| WL.nil ?_
 refine WT.ret Tryz.func97 (resOk.one rfl) (fun w1 hw => ?_)
 subst hb0
 cases h
 refine postG_of_St (js := [0, 0]) hw rfl ⟨D1, rfl, rfl, k1⟩
theorem m_l_markChainS_ok {Φ : Hp} {w : World} (hΦ : In Φ w) (N : Nat) (p0 : (List TChain)) (p1 : Int) {pv0 : Value} {pD0 : List Nat} (ph0 : OSl OTChain 43 2 Φ pD0 pv0 p0) (hB : [ob pv0, pD0].flatten.Nodup) (hlt : ∀ k ∈ [ob pv0, pD0].flatten, k < w.heap.size) {r : Int × (List TChain)} (h : m_l_markChainS N p0 p1 = some r) :
  Calls Tryz.prog 98 [pv0, .int .i64 p1].toArray w (PostG Φ w [ob pv0, pD0].flatten (fun Φ' Fs v => ∃ (Do_0_0 : List Nat), v = .int .i64 r.1 ∧ Fs = [ob pv0, Do_0_0] ∧ OSl OTChain 43 2 Φ' Do_0_0 pv0 r.2)) := by
 refine enter Tryz.func98 rfl Tryz.ntmps98 rfl (St.start hΦ [ob pv0, pD0] hB hlt) ?_
 generalize hb0 : (⟨w, [ob pv0, pD0].flatten, Φ⟩ : Base) = w0
 unfold m_l_markChainS at h
 refine WT.seq <| WT.region <| lq (q_assign rfl) rfl <| WL.nil <| WT.seq <| WT.seq <| WT.region <| lq (q_assign rfl) rfl <| WL.nil <| WT.block <| WT.loop <| WT.mono (l' := [(0, pv0), (1, .int .i64 p1), (5, .int .i64 0)]) (S' := St w0 Φ [] [ob pv0, pD0]) ⟨rfl, rfl, rfl, trivial⟩ (fun w1 hw => (hw.sel (js := [0, 0]) rfl).selO (js := []) rfl) ?_
 refine loop_ind (σ := Hp × (List TChain) × List Nat × Int × Int) (fun s => [(0, pv0), (1, .int .i64 s.2.2.2.1), (5, .int .i64 s.2.2.2.2)]) (fun s => St w0 s.1 [] [ob pv0, s.2.2.1]) (fun m s => m_l_markChainS_l1 N m s.2.1 s.2.2.2.1 s.2.2.2.2 = some r ∧ (OSl OTChain 43 2 s.1 s.2.2.1 pv0 s.2.1)) (fun s hm => none_ne (show (none : Option (Int × (List TChain))) = some r from hm.1)) (fun n1 ih1 s hm => ?_) N (Φ, p0, pD0, p1, 0) ⟨h, ph0⟩
 obtain ⟨Φ_1, s1, D1, s2, s3⟩ := s
 obtain ⟨h, k1⟩ := hm
 replace h : m_l_markChainS_l1 N (n1 + 1) s1 s2 s3 = some r := h
 replace k1 : OSl OTChain 43 2 Φ_1 D1 pv0 s1 := k1
 show WT _ _ [(0, pv0), (1, .int .i64 s2), (5, .int .i64 s3)] (St w0 Φ_1 [] [ob pv0, D1])
 unfold m_l_markChainS_l1 at h
 refine WT.seq <| WT.seq <| WT.region <| lq (q_move rfl) rfl <| lq (q_move rfl) rfl <| lq (q_lenR Sl_25 rfl rfl (k1.rslG OTChain.gives)) rfl <| lq (q_lss rfl rfl) rfl <| WL.nil ?_
 refine WT.cond rfl (fun c1 => ?_) (fun c1 => ?_)
 ·replace h := ite_t h c1
  refine WT.skip <| WT.seq <| WT.block <| WT.seq <| WT.region <| lq (q_move rfl) rfl <| lq (q_move rfl) rfl ?_
  obtain ⟨x1, hx1, h⟩ := bind_some h
  obtain ⟨cs1, F1, D2, h1, r1, kf1, sp1⟩ := k1.focus hx1
  obtain ⟨v1, v2, rfl, rfl, h2, h3⟩ := r1
  refine WL.conv (S' := St w0 Φ_1 [] [ob v1, ob v2, D2, ob pv0]) (fun w1 hw => hw.re (js := [1]) (Bs := [ob v1, ob v2, D2]) rfl (by simpa [List.append_assoc] using sp1)) <| lq (q_indexAddrH Sl_25 rfl rfl h1 hx1) rfl <| lq (q_fieldAddr Fld_43_0 rfl) rfl <| lq (q_load1 T1_41 rfl (fun w1 hw => (h1.rg.of_eq 0 1 rfl rfl : rg _ _ _ [v1]).rangeAt hw.fro)) rfl <| lq (q_move rfl) rfl ?_
  obtain ⟨x2, hx2, h⟩ := bind_some h
  refine lc (k_call (js := [0]) (R := [ob v2, D2, ob pv0]) Fun_165 rfl rfl (fun w1 hw ap hl => m_l_markIntS_ok hw.fro N x1.Pos s2 h2 ap.nd hl hx2)) rfl (fun v3 Φ_2 F2 q1 => ?_)
  obtain ⟨ap1, fr1, rfl, rfl, h4⟩ := q1
  replace h1 := h1.frame OTChain.lasts fr1 (ap1.r (i := 2) rfl) (ap1.r (i := 1) rfl)
  replace h3 := h3.frame RI.lasts fr1 (ap1.r (i := 0) rfl) (Dj.nil _)
  refine lq (q_assign rfl) rfl <| WL.nil <| WT.region <| lq (q_move rfl) rfl <| lq (q_move rfl) rfl <| lq (q_indexAddrH Sl_25 rfl rfl h1 hx1) rfl <| lq (q_fieldAddr Fld_43_1 rfl) rfl <| lq (q_load1 T1_41 rfl (fun w1 hw => (h1.rg.of_eq 1 1 rfl rfl : rg _ _ _ [v2]).rangeAt hw.fro)) rfl <| lq (q_move rfl) rfl ?_
  obtain ⟨x3, hx3, h⟩ := bind_some h
  refine lc (k_call (js := [1]) (R := [ob v1, D2, ob pv0]) Fun_165 rfl rfl (fun w1 hw ap hl => m_l_markIntS_ok hw.fro N x1.Neg x2.1 h3 ap.nd hl hx3)) rfl (fun v4 Φ_3 F3 q2 => ?_)
  obtain ⟨ap2, fr2, rfl, rfl, h5⟩ := q2
  replace h1 := h1.frame OTChain.lasts fr2 (ap2.r (i := 2) rfl) (ap2.r (i := 1) rfl)
  replace h4 := h4.frame RI.lasts fr2 (ap2.r (i := 0) rfl) (Dj.nil _)
  refine lq (q_assign rfl) rfl <| WL.nil <| WT.inBlock <| WT.region <| lq (q_move rfl) rfl <| lq (q_add rfl rfl) rfl <| lq (q_assign rfl) rfl <| WL.nil ?_
  have r2 : OTChain Φ_3 _ [v1, v2] (⟨x2.2, x3.2⟩ : TChain) := ⟨v1, v2, rfl, rfl, h4, h5⟩
  obtain ⟨D3, h6, sp2⟩ := h1.unfocus r2 (OTChain.knows _ _ _ _ r2)
  refine WT.conv (S' := St w0 Φ_3 [] [D3, ob pv0]) (fun w1 hw => hw.merge (js := [1, 0, 0]) rfl (by simpa [List.append_assoc, ob_nil] using sp2)) ?_
  refine WT.inLoop (WT.mono (l' := [(0, pv0), (1, .int .i64 x3.1), (5, .int .i64 (IntKind.i64.wrap (s3 + 1)))]) (S' := St w0 Φ_3 [] [ob pv0, D3]) ⟨rfl, rfl, rfl, trivial⟩ (fun w1 hw => (hw.sel (js := [1, 0]) rfl).selO (js := []) rfl) ?_)
  exact ih1 (Φ_3, (s1.set s3.toNat (⟨x2.2, x3.2⟩ : TChain)), D3, x3.1, IntKind.i64.wrap (s3 + 1)) ⟨h, h6⟩
 replace h := ite_f h c1
 refine WT.exit rfl <| WT.seq <| WT.region <| lq (q_move rfl) rfl <| lq (q_assign rfl) rfl <| WL.nil ?_
 refine WT.ret Tryz.func98 (resOk.one rfl) (fun w1 hw => ?_)
 subst hb0
 cases h
 refine postG_of_St (js := [0, 0]) hw rfl ⟨D1, rfl, rfl, k1⟩
theorem m_l_markNet_ok {Φ : Hp} {w : World} (hΦ : In Φ w) (N : Nat) (p0 : TNet) (p1 : Int) {pv0_0 : Value} {pD0_0 : List Nat} {pv0_1 : Value} {pD0_1 : List Nat} (ph0_0 : OSl OTAlpha 102 4 Φ pD0_0 pv0_0 p0.Alphas) (ph0_1 : OSl OTChain 43 2 Φ pD0_1 pv0_1 p0.Chains) (hB : [ob pv0_0, pD0_0, ob pv0_1, pD0_1].flatten.Nodup) (hlt : ∀ k ∈ [ob pv0_0, pD0_0, ob pv0_1, pD0_1].flatten, k < w.heap.size) {r : Int × (List TAlpha) × (List TChain)} (h : m_l_markNet N p0 p1 = some r) :
  Calls Tryz.prog 42 [.agg [pv0_0, pv0_1].toArray, .int .i64 p1].toArray w (PostG Φ w [ob pv0_0, pD0_0, ob pv0_1, pD0_1].flatten (fun Φ' Fs v => ∃ (Do_0_0 : List Nat) (Do_1_0 : List Nat), v = .int .i64 r.1 ∧ Fs = [ob pv0_0, Do_0_0, ob pv0_1, Do_1_0] ∧ OSl OTAlpha 102 4 Φ' Do_0_0 pv0_0 r.2.1 ∧ OSl OTChain 43 2 Φ' Do_1_0 pv0_1 r.2.2)) := by
 refine enter Tryz.func42 rfl Tryz.ntmps42 rfl (St.start hΦ [ob pv0_0, pD0_0, ob pv0_1, pD0_1] hB hlt) ?_
 unfold m_l_markNet at h
 refine WT.seq <| WT.region ?_
 refine ln (n_box (C := #[pv0_0, pv0_1]) rfl rfl) rfl (fun b_1 => ?_)
 refine lq (q_assign rfl) rfl <| WL.nil <| WT.seq <| WT.region <| lq (q_fieldAddr Fld_27_0 rfl) rfl <| lq (q_load1 T1_24 rfl (fun w1 hw => hw.rgO (i := 0) rfl 0 1 [pv0_0] rfl)) rfl <| lq (q_move rfl) rfl ?_
 obtain ⟨x1, hx1, h⟩ := bind_some h
 refine lc (k_call (js := [0, 0]) (R := [ob pv0_1, pD0_1]) Fun_97 rfl rfl (fun w1 hw ap hl => m_l_markAlphaS_ok hw.fro N p0.Alphas p1 ph0_0 ap.nd hl hx1)) rfl (fun v1 Φ_1 F1 q1 => ?_)
 obtain ⟨ap1, fr1, D1, rfl, rfl, h1⟩ := q1
 replace ph0_1 := ph0_1.frame OTChain.lasts fr1 (ap1.r (i := 0) rfl) (ap1.r (i := 1) rfl)
 refine lq (q_assign rfl) rfl <| WL.nil <| WT.seq <| WT.region <| lq (q_fieldAddr Fld_27_1 rfl) rfl <| lq (q_load1 T1_25 rfl (fun w1 hw => hw.rgO (i := 0) rfl 1 1 [pv0_1] rfl)) rfl <| lq (q_move rfl) rfl ?_
 obtain ⟨x2, hx2, h⟩ := bind_some h
 refine lc (k_call (js := [2, 2]) (R := [ob pv0_0, D1]) Fun_98 rfl rfl (fun w1 hw ap hl => m_l_markChainS_ok hw.fro N p0.Chains x1.1 ph0_1 ap.nd hl hx2)) rfl (fun v2 Φ_2 F2 q2 => ?_)
 obtain ⟨ap2, fr2, D2, rfl, rfl, h2⟩ := q2
 replace h1 := h1.frame OTAlpha.lasts fr2 (ap2.r (i := 0) rfl) (ap2.r (i := 1) rfl)
 refine lq (q_assign rfl) rfl <| WL.nil <| WT.seq <| WT.region <| lq (q_move rfl) rfl <| lq (q_assign rfl) rfl <| WL.nil ?_
 refine WT.ret Tryz.func42 (resOk.one rfl) (fun w1 hw => ?_)
 cases h
 refine postG_of_St (js := [2, 2, 0, 0]) hw rfl ⟨D1, D2, rfl, rfl, h1, h2⟩
theorem m_l_heldValS_ok {Φ : Hp} {w : World} (hΦ : In Φ w) (N : Nat) (p0 : (List TVal)) (p1 : Int) {pv0 : Value} {pG0 : List Nat} (ph0 : RSl RTVal 3 Φ pG0 pv0 p0) {r : Int} (h : m_l_heldValS N p0 p1 = some r) :
  Calls Tryz.prog 166 [pv0, .int .i64 p1].toArray w (Post (.int .i64 r) w) := by
 refine enter Tryz.func166 rfl Tryz.ntmps166 rfl (St.start0 hΦ) ?_
 generalize hb0 : (⟨w, [], Φ⟩ : Base) = w0
 unfold m_l_heldValS at h
 refine WT.seq <| WT.region <| lq (q_assign rfl) rfl <| WL.nil <| WT.seq <| WT.seq <| WT.region <| lq (q_assign rfl) rfl <| WL.nil <| WT.block <| WT.loop <| WT.mono (l' := [(0, pv0), (1, .int .i64 p1), (5, .int .i64 0)]) (S' := St w0 Φ [] []) ⟨rfl, rfl, rfl, trivial⟩ (fun w1 hw => (hw.sel (js := []) rfl).selO (js := []) rfl) ?_
 refine loop_ind (σ := Int × Int) (fun s => [(0, pv0), (1, .int .i64 s.1), (5, .int .i64 s.2)]) (fun s => St w0 Φ [] []) (fun m s => m_l_heldValS_l1 N p0 m s.1 s.2 = some r) (fun s hm => none_ne (show (none : Option (Int)) = some r from hm)) (fun n1 ih1 s hm => ?_) N (p1, 0) h
 obtain ⟨s1, s2⟩ := s
 have h : m_l_heldValS_l1 N p0 (n1 + 1) s1 s2 = some r := hm
 show WT _ _ [(0, pv0), (1, .int .i64 s1), (5, .int .i64 s2)] (St w0 Φ [] [])
 unfold m_l_heldValS_l1 at h
 refine WT.seq <| WT.seq <| WT.region <| lq (q_move rfl) rfl <| lq (q_move rfl) rfl <| lq (q_lenR Sl_100 rfl rfl ph0) rfl <| lq (q_lss rfl rfl) rfl <| WL.nil ?_
 refine WT.cond rfl (fun c1 => ?_) (fun c1 => ?_)
 ·replace h := ite_t h c1
  refine WT.skip <| WT.seq <| WT.block <| WT.seq <| WT.seq <| WT.region <| lq (q_move rfl) rfl <| lq (q_move rfl) rfl ?_
  obtain ⟨x1, hx1, h⟩ := bind_some h
  obtain ⟨cs1, F1, -, g1, hb1, hs1, r1⟩ := ph0.el (idx_some hx1).2.2
  obtain ⟨rfl, -⟩ := r1
  refine lq (q_indexAddr Sl_100 rfl rfl ph0 hx1) rfl <| lq (q_fieldAddr Fld_121_0 rfl) rfl <| lq (q_load1 T1_3 rfl (fun w1 hw => (g1.of_eq 0 1 rfl rfl : rg _ _ _ [.int .i64 x1.K]).rangeAt hw.fro)) rfl <| lq (q_move rfl) rfl <| lq (q_neq rfl rfl) rfl <| WL.nil ?_
  refine WT.cond rfl (fun c2 => ?_) (fun c2 => ?_)
  ·replace h := ite_t h c2
   refine WT.seq <| WT.region <| lq (q_assign rfl) rfl <| WL.nil ?_
   refine WT.ret Tryz.func166 (resOk.one rfl) (fun w1 hw => ?_)
   subst hb0
   cases h
   exact post_of_St hw
  replace h := ite_f h c2
  refine WT.skip <| WT.seq <| WT.region <| lq (q_move rfl) rfl <| lq (q_add rfl rfl) rfl <| lq (q_assign rfl) rfl <| WL.nil <| WT.seq <| WT.seq <| WT.region <| lq (q_move rfl) rfl <| lq (q_move rfl) rfl ?_
  obtain ⟨x2, hx2, h⟩ := bind_some h
  obtain ⟨cs2, F2, -, g2, hb2, hs2, r2⟩ := ph0.el (idx_some hx2).2.2
  obtain ⟨rfl, -⟩ := r2
  refine lq (q_indexAddr Sl_100 rfl rfl ph0 hx2) rfl <| lq (q_fieldAddr Fld_121_1 rfl) rfl <| lq (q_load1 T1_3 rfl (fun w1 hw => (g2.of_eq 1 1 rfl rfl : rg _ _ _ [.int .i64 x2.N]).rangeAt hw.fro)) rfl <| lq (q_move rfl) rfl <| lq (q_neq rfl rfl) rfl <| WL.nil ?_
  refine WT.cond rfl (fun c3 => ?_) (fun c3 => ?_)
  ·replace h := ite_t h c3
   refine WT.seq <| WT.region <| lq (q_assign rfl) rfl <| WL.nil ?_
   refine WT.ret Tryz.func166 (resOk.one rfl) (fun w1 hw => ?_)
   subst hb0
   cases h
   exact post_of_St hw
  replace h := ite_f h c3
  refine WT.skip <| WT.seq <| WT.region <| lq (q_move rfl) rfl <| lq (q_add rfl rfl) rfl <| lq (q_assign rfl) rfl <| WL.nil <| WT.seq <| WT.seq <| WT.draw mixed (by kernel_rfl) (fun _ h => h.drew) <| qq (q_move rfl) rfl <| qq (q_move rfl) rfl ?_
  obtain ⟨x3, hx3, h⟩ := bind_some h
  obtain ⟨cs3, F3, -, g3, hb3, hs3, r3⟩ := ph0.el (idx_some hx3).2.2
  obtain ⟨rfl, -⟩ := r3
  refine qq (q_indexAddr Sl_100 rfl rfl ph0 hx3) rfl <| qq (q_fieldAddr Fld_121_2 rfl) rfl <| qq (q_load1 T1_9 rfl (fun w1 hw => (g3.of_eq 2 1 rfl rfl : rg _ _ _ [.string x3.S]).rangeAt hw.fro)) rfl <| qq (q_move rfl) rfl ?_
  obtain ⟨x4, hx4, h⟩ := bind_some h
  refine qp (p_call Fun_160 rfl (fun w1 hw => m_l_markText_ok hw.fro N (IntKind.i64.wrap ((IntKind.i64.wrap (s1 + 1)) + 1)) hx4)) rfl <| qq (q_sne rfl rfl) rfl <| WQ.nil ?_
  refine WT.cond rfl (fun c4 => ?_) (fun c4 => ?_)
  ·replace h := ite_t h c4
   refine WT.seq <| WT.region <| lq (q_assign rfl) rfl <| WL.nil ?_
   refine WT.ret Tryz.func166 (resOk.one rfl) (fun w1 hw => ?_)
   subst hb0
   cases h
   exact post_of_St hw
  replace h := ite_f h c4
  refine WT.skip <| WT.region <| lq (q_move rfl) rfl <| lq (q_add rfl rfl) rfl <| lq (q_assign rfl) rfl <| WL.nil <| WT.inBlock <| WT.region <| lq (q_move rfl) rfl <| lq (q_add rfl rfl) rfl <| lq (q_assign rfl) rfl <| WL.nil ?_
  refine WT.inLoop (WT.mono (l' := [(0, pv0), (1, .int .i64 (IntKind.i64.wrap ((IntKind.i64.wrap ((IntKind.i64.wrap (s1 + 1)) + 1)) + 1))), (5, .int .i64 (IntKind.i64.wrap (s2 + 1)))]) (S' := St w0 Φ [] []) ⟨rfl, rfl, rfl, trivial⟩ (fun w1 hw => (hw.sel (js := []) rfl).selO (js := []) rfl) ?_)
  exact ih1 (IntKind.i64.wrap ((IntKind.i64.wrap ((IntKind.i64.wrap (s1 + 1)) + 1)) + 1), IntKind.i64.wrap (s2 + 1)) h
 replace h := ite_f h c1
 refine WT.exit rfl <| WT.seq <| WT.region <| lq (q_move rfl) rfl <| lq (q_assign rfl) rfl <| WL.nil ?_
 refine WT.ret Tryz.func166 (resOk.one rfl) (fun w1 hw => ?_)
 subst hb0
 cases h
 exact post_of_St hw
theorem m_l_heldIntS_ok {Φ : Hp} {w : World} (hΦ : In Φ w) (N : Nat) (p0 : (List Int)) (p1 : Int) {pv0 : Value} {pG0 : List Nat} (ph0 : RSl (RI .i64) 1 Φ pG0 pv0 p0) {r : Int} (h : m_l_heldIntS N p0 p1 = some r) :
  Calls Tryz.prog 167 [pv0, .int .i64 p1].toArray w (Post (.int .i64 r) w) := by
 refine enter Tryz.func167 rfl Tryz.ntmps167 rfl (St.start0 hΦ) ?_
 generalize hb0 : (⟨w, [], Φ⟩ : Base) = w0
 unfold m_l_heldIntS at h
 refine WT.seq <| WT.region <| lq (q_assign rfl) rfl <| WL.nil <| WT.seq <| WT.seq <| WT.region <| lq (q_assign rfl) rfl <| WL.nil <| WT.block <| WT.loop <| WT.mono (l' := [(0, pv0), (1, .int .i64 p1), (5, .int .i64 0)]) (S' := St w0 Φ [] []) ⟨rfl, rfl, rfl, trivial⟩ (fun w1 hw => (hw.sel (js := []) rfl).selO (js := []) rfl) ?_
 refine loop_ind (σ := Int × Int) (fun s => [(0, pv0), (1, .int .i64 s.1), (5, .int .i64 s.2)]) (fun s => St w0 Φ [] []) (fun m s => m_l_heldIntS_l1 N p0 m s.1 s.2 = some r) (fun s hm => none_ne (show (none : Option (Int)) = some r from hm)) (fun n1 ih1 s hm => ?_) N (p1, 0) h
 obtain ⟨s1, s2⟩ := s
 have h : m_l_heldIntS_l1 N p0 (n1 + 1) s1 s2 = some r := hm
 show WT _ _ [(0, pv0), (1, .int .i64 s1), (5, .int .i64 s2)] (St w0 Φ [] [])
 unfold m_l_heldIntS_l1 at h
 refine WT.seq <| WT.seq <| WT.region <| lq (q_move rfl) rfl <| lq (q_move rfl) rfl <| lq (q_lenR Sl_41 rfl rfl ph0) rfl <| lq (q_lss rfl rfl) rfl <| WL.nil ?_
 refine WT.cond rfl (fun c1 => ?_) (fun c1 => ?_)
 ·replace h := ite_t h c1
  refine WT.skip <| WT.seq <| WT.block <| WT.seq <| WT.seq <| WT.region <| lq (q_move rfl) rfl <| lq (q_move rfl) rfl ?_
  obtain ⟨x1, hx1, h⟩ := bind_some h
  obtain ⟨cs1, F1, -, g1, hb1, hs1, r1⟩ := ph0.el (idx_some hx1).2.2
  obtain ⟨rfl, -⟩ := r1
  refine lq (q_indexAddr Sl_41 rfl rfl ph0 hx1) rfl <| lq (q_load1 T1_3 rfl (fun w1 hw => (g1.of_eq 0 1 rfl rfl : rg _ _ _ [.int .i64 x1]).rangeAt hw.fro)) rfl <| lq (q_move rfl) rfl <| lq (q_neq rfl rfl) rfl <| WL.nil ?_
  refine WT.cond rfl (fun c2 => ?_) (fun c2 => ?_)
  ·replace h := ite_t h c2
   refine WT.seq <| WT.region <| lq (q_assign rfl) rfl <| WL.nil ?_
   refine WT.ret Tryz.func167 (resOk.one rfl) (fun w1 hw => ?_)
   subst hb0
   cases h
   exact post_of_St hw
  replace h := ite_f h c2
  refine WT.skip <| WT.region <| lq (q_move rfl) rfl <| lq (q_add rfl rfl) rfl <| lq (q_assign rfl) rfl <| WL.nil <| WT.inBlock <| WT.region <| lq (q_move rfl) rfl <| lq (q_add rfl rfl) rfl <| lq (q_assign rfl) rfl <| WL.nil ?_
  refine WT.inLoop (WT.mono (l' := [(0, pv0), (1, .int .i64 (IntKind.i64.wrap (s1 + 1))), (5, .int .i64 (IntKind.i64.wrap (s2 + 1)))]) (S' := St w0 Φ [] []) ⟨rfl, rfl, rfl, trivial⟩ (fun w1 hw => (hw.sel (js := []) rfl).selO (js := []) rfl) ?_)
  exact ih1 (IntKind.i64.wrap (s1 + 1), IntKind.i64.wrap (s2 + 1)) h
 replace h := ite_f h c1
 refine WT.exit rfl <| WT.seq <| WT.region <| lq (q_move rfl) rfl <| lq (q_assign rfl) rfl <| WL.nil ?_
 refine WT.ret Tryz.func167 (resOk.one rfl) (fun w1 hw => ?_)
 subst hb0
 cases h
 exact post_of_St hw
theorem m_l_heldAlphaS_ok {Φ : Hp} {w : World} (hΦ : In Φ w) (N : Nat) (p0 : (List TAlpha)) (p1 : Int) {pv0 : Value} {pG0 : List Nat} (ph0 : RSl RTAlpha 4 Φ pG0 pv0 p0) {r : Int} (h : m_l_heldAlphaS N p0 p1 = some r) :
  Calls Tryz.prog 99 [pv0, .int .i64 p1].toArray w (Post (.int .i64 r) w) := by
 refine enter Tryz.func99 rfl Tryz.ntmps99 rfl (St.start0 hΦ) ?_
 generalize hb0 : (⟨w, [], Φ⟩ : Base) = w0
 unfold m_l_heldAlphaS at h
 refine WT.seq <| WT.region <| lq (q_assign rfl) rfl <| WL.nil <| WT.seq <| WT.seq <| WT.region <| lq (q_assign rfl) rfl <| WL.nil <| WT.block <| WT.loop <| WT.mono (l' := [(0, pv0), (1, .int .i64 p1), (5, .int .i64 0)]) (S' := St w0 Φ [] []) ⟨rfl, rfl, rfl, trivial⟩ (fun w1 hw => (hw.sel (js := []) rfl).selO (js := []) rfl) ?_
 refine loop_ind (σ := Int × Int) (fun s => [(0, pv0), (1, .int .i64 s.1), (5, .int .i64 s.2)]) (fun s => St w0 Φ [] []) (fun m s => m_l_heldAlphaS_l1 N p0 m s.1 s.2 = some r) (fun s hm => none_ne (show (none : Option (Int)) = some r from hm)) (fun n1 ih1 s hm => ?_) N (p1, 0) h
 obtain ⟨s1, s2⟩ := s
 have h : m_l_heldAlphaS_l1 N p0 (n1 + 1) s1 s2 = some r := hm
 show WT _ _ [(0, pv0), (1, .int .i64 s1), (5, .int .i64 s2)] (St w0 Φ [] [])
 unfold m_l_heldAlphaS_l1 at h
 refine WT.seq <| WT.seq <| WT.region <| lq (q_move rfl) rfl <| lq (q_move rfl) rfl <| lq (q_lenR Sl_24 rfl rfl ph0) rfl <| lq (q_lss rfl rfl) rfl <| WL.nil ?_
 refine WT.cond rfl (fun c1 => ?_) (fun c1 => ?_)
 ·replace h := ite_t h c1
  refine WT.skip <| WT.seq <| WT.block <| WT.seq <| WT.seq <| WT.draw mixed (by kernel_rfl) (fun _ h => h.drew) <| qq (q_move rfl) rfl <| qq (q_move rfl) rfl ?_
  obtain ⟨x1, hx1, h⟩ := bind_some h
  obtain ⟨cs1, F1, -, g1, hb1, hs1, r1⟩ := ph0.el (idx_some hx1).2.2
  obtain ⟨v1, G1, v2, G2, rfl, rfl, h1, h2⟩ := r1
  refine qq (q_indexAddr Sl_24 rfl rfl ph0 hx1) rfl <| qq (q_fieldAddr Fld_102_0 rfl) rfl <| qq (q_load1 T1_9 rfl (fun w1 hw => (g1.of_eq 0 1 rfl rfl : rg _ _ _ [.string x1.Kind]).rangeAt hw.fro)) rfl <| qq (q_move rfl) rfl ?_
  obtain ⟨x2, hx2, h⟩ := bind_some h
  refine qp (p_call Fun_160 rfl (fun w1 hw => m_l_markText_ok hw.fro N s1 hx2)) rfl <| qq (q_sne rfl rfl) rfl <| WQ.nil ?_
  refine WT.cond rfl (fun c2 => ?_) (fun c2 => ?_)
  ·replace h := ite_t h c2
   refine WT.seq <| WT.region <| lq (q_assign rfl) rfl <| WL.nil ?_
   refine WT.ret Tryz.func99 (resOk.one rfl) (fun w1 hw => ?_)
   subst hb0
   cases h
   exact post_of_St hw
  replace h := ite_f h c2
  refine WT.skip <| WT.seq <| WT.region <| lq (q_move rfl) rfl <| lq (q_add rfl rfl) rfl <| lq (q_assign rfl) rfl <| WL.nil <| WT.seq <| WT.seq <| WT.region <| lq (q_move rfl) rfl <| lq (q_move rfl) rfl ?_
  obtain ⟨x3, hx3, h⟩ := bind_some h
  obtain ⟨cs2, F2, -, g2, hb2, hs2, r2⟩ := ph0.el (idx_some hx3).2.2
  obtain ⟨v3, G3, v4, G4, rfl, rfl, h3, h4⟩ := r2
  refine lq (q_indexAddr Sl_24 rfl rfl ph0 hx3) rfl <| lq (q_fieldAddr Fld_102_1 rfl) rfl <| lq (q_load1 T1_3 rfl (fun w1 hw => (g2.of_eq 1 1 rfl rfl : rg _ _ _ [.int .i64 x3.N]).rangeAt hw.fro)) rfl <| lq (q_move rfl) rfl <| lq (q_neq rfl rfl) rfl <| WL.nil ?_
  refine WT.cond rfl (fun c3 => ?_) (fun c3 => ?_)
  ·replace h := ite_t h c3
   refine WT.seq <| WT.region <| lq (q_assign rfl) rfl <| WL.nil ?_
   refine WT.ret Tryz.func99 (resOk.one rfl) (fun w1 hw => ?_)
   subst hb0
   cases h
   exact post_of_St hw
  replace h := ite_f h c3
  refine WT.skip <| WT.seq <| WT.region <| lq (q_move rfl) rfl <| lq (q_add rfl rfl) rfl <| lq (q_assign rfl) rfl <| WL.nil <| WT.seq <| WT.region <| lq (q_move rfl) rfl <| lq (q_move rfl) rfl ?_
  obtain ⟨x4, hx4, h⟩ := bind_some h
  obtain ⟨cs3, F3, -, g3, hb3, hs3, r3⟩ := ph0.el (idx_some hx4).2.2
  obtain ⟨v5, G5, v6, G6, rfl, rfl, h5, h6⟩ := r3
  refine lq (q_indexAddr Sl_24 rfl rfl ph0 hx4) rfl <| lq (q_fieldAddr Fld_102_2 rfl) rfl <| lq (q_load1 T1_100 rfl (fun w1 hw => (g3.of_eq 2 1 rfl rfl : rg _ _ _ [v5]).rangeAt hw.fro)) rfl <| lq (q_move rfl) rfl ?_
  obtain ⟨x5, hx5, h⟩ := bind_some h
  refine lp (p_call Fun_166 rfl (fun w1 hw => m_l_heldValS_ok hw.fro N x4.Consts (IntKind.i64.wrap ((IntKind.i64.wrap (s1 + 1)) + 1)) h5 hx5)) rfl <| lq (q_assign rfl) rfl <| WL.nil <| WT.seq <| WT.seq <| WT.region <| lq (q_move rfl) rfl <| lq (q_lss rfl rfl) rfl <| WL.nil ?_
  refine WT.cond rfl (fun c4 => ?_) (fun c4 => ?_)
  ·replace h := ite_t h c4
   refine WT.seq <| WT.region <| lq (q_assign rfl) rfl <| WL.nil ?_
   refine WT.ret Tryz.func99 (resOk.one rfl) (fun w1 hw => ?_)
   subst hb0
   cases h
   exact post_of_St hw
  replace h := ite_f h c4
  refine WT.skip <| WT.seq <| WT.region <| lq (q_move rfl) rfl <| lq (q_move rfl) rfl ?_
  obtain ⟨x6, hx6, h⟩ := bind_some h
  obtain ⟨cs4, F4, -, g4, hb4, hs4, r4⟩ := ph0.el (idx_some hx6).2.2
  obtain ⟨v7, G7, v8, G8, rfl, rfl, h7, h8⟩ := r4
  refine lq (q_indexAddr Sl_24 rfl rfl ph0 hx6) rfl <| lq (q_fieldAddr Fld_102_3 rfl) rfl <| lq (q_load1 T1_41 rfl (fun w1 hw => (g4.of_eq 3 1 rfl rfl : rg _ _ _ [v8]).rangeAt hw.fro)) rfl <| lq (q_move rfl) rfl ?_
  obtain ⟨x7, hx7, h⟩ := bind_some h
  refine lp (p_call Fun_167 rfl (fun w1 hw => m_l_heldIntS_ok hw.fro N x6.At x5 h8 hx7)) rfl <| lq (q_assign rfl) rfl <| WL.nil <| WT.seq <| WT.region <| lq (q_move rfl) rfl <| lq (q_lss rfl rfl) rfl <| WL.nil ?_
  refine WT.cond rfl (fun c5 => ?_) (fun c5 => ?_)
  ·replace h := ite_t h c5
   refine WT.seq <| WT.region <| lq (q_assign rfl) rfl <| WL.nil ?_
   refine WT.ret Tryz.func99 (resOk.one rfl) (fun w1 hw => ?_)
   subst hb0
   cases h
   exact post_of_St hw
  replace h := ite_f h c5
  refine WT.skip <| WT.inBlock <| WT.region <| lq (q_move rfl) rfl <| lq (q_add rfl rfl) rfl <| lq (q_assign rfl) rfl <| WL.nil ?_
  refine WT.inLoop (WT.mono (l' := [(0, pv0), (1, .int .i64 x7), (5, .int .i64 (IntKind.i64.wrap (s2 + 1)))]) (S' := St w0 Φ [] []) ⟨rfl, rfl, rfl, trivial⟩ (fun w1 hw => (hw.sel (js := []) rfl).selO (js := []) rfl) ?_)
  exact ih1 (x7, IntKind.i64.wrap (s2 + 1)) h
 replace h := ite_f h c1
 refine WT.exit rfl <| WT.seq <| WT.region <| lq (q_move rfl) rfl <| lq (q_assign rfl) rfl <| WL.nil ?_
 refine WT.ret Tryz.func99 (resOk.one rfl) (fun w1 hw => ?_)
 subst hb0
 cases h
 exact post_of_St hw
theorem m_l_heldChainS_ok {Φ : Hp} {w : World} (hΦ : In Φ w) (N : Nat) (p0 : (List TChain)) (p1 : Int) {pv0 : Value} {pG0 : List Nat} (ph0 : RSl RTChain 2 Φ pG0 pv0 p0) {r : Int} (h : m_l_heldChainS N p0 p1 = some r) :
  Calls Tryz.prog 100 [pv0, .int .i64 p1].toArray w (Post (.int .i64 r) w) := by
 refine enter Tryz.func100 rfl Tryz.ntmps100 rfl (St.start0 hΦ) ?_
 generalize hb0 : (⟨w, [], Φ⟩ : Base) = w0
 unfold m_l_heldChainS at h
 refine WT.seq <| WT.region <| lq (q_assign rfl) rfl <| WL.nil <| WT.seq <| WT.seq <| WT.region <| lq (q_assign rfl) rfl <| WL.nil <| WT.block <| WT.loop <| WT.mono (l' := [(0, pv0), (1, .int .i64 p1), (5, .int .i64 0)]) (S' := St w0 Φ [] []) ⟨rfl, rfl, rfl, trivial⟩ (fun w1 hw => (hw.sel (js := []) rfl).selO (js := []) rfl) ?_
 refine loop_ind (σ := Int × Int) (fun s => [(0, pv0), (1, .int .i64 s.1), (5, .int .i64 s.2)]) (fun s => St w0 Φ [] []) (fun m s => m_l_heldChainS_l1 N p0 m s.1 s.2 = some r) (fun s hm => none_ne (show (none : Option (Int)) = some r from hm)) (fun n1 ih1 s hm => ?_) N (p1, 0) h
 obtain ⟨s1, s2⟩ := s
 have h : m_l_heldChainS_l1 N p0 (n1 + 1) s1 s2 = some r := hm
 show WT _ _ [(0, pv0), (1, .int .i64 s1), (5, .int .i64 s2)] (St w0 Φ [] [])
 unfold m_l_heldChainS_l1 at h
 refine WT.seq <| WT.seq <| WT.region <| lq (q_move rfl) rfl <| lq (q_move rfl) rfl <| lq (q_lenR Sl_25 rfl rfl ph0) rfl <| lq (q_lss rfl rfl) rfl <| WL.nil ?_
 refine WT.cond rfl (fun c1 => ?_) (fun c1 => ?_)
 ·replace h := ite_t h c1
  refine WT.skip <| WT.seq <| WT.block <| WT.seq <| WT.region <| lq (q_move rfl) rfl <| lq (q_move rfl) rfl ?_
  obtain ⟨x1, hx1, h⟩ := bind_some h
  obtain ⟨cs1, F1, -, g1, hb1, hs1, r1⟩ := ph0.el (idx_some hx1).2.2
  obtain ⟨v1, G1, v2, G2, rfl, rfl, h1, h2⟩ := r1
  refine lq (q_indexAddr Sl_25 rfl rfl ph0 hx1) rfl <| lq (q_fieldAddr Fld_43_0 rfl) rfl <| lq (q_load1 T1_41 rfl (fun w1 hw => (g1.of_eq 0 1 rfl rfl : rg _ _ _ [v1]).rangeAt hw.fro)) rfl <| lq (q_move rfl) rfl ?_
  obtain ⟨x2, hx2, h⟩ := bind_some h
  refine lp (p_call Fun_167 rfl (fun w1 hw => m_l_heldIntS_ok hw.fro N x1.Pos s1 h1 hx2)) rfl <| lq (q_assign rfl) rfl <| WL.nil <| WT.seq <| WT.seq <| WT.region <| lq (q_move rfl) rfl <| lq (q_lss rfl rfl) rfl <| WL.nil ?_
  refine WT.cond rfl (fun c2 => ?_) (fun c2 => ?_)
  ·replace h := ite_t h c2
   refine WT.seq <| WT.region <| lq (q_assign rfl) rfl <| WL.nil ?_
   refine WT.ret Tryz.func100 (resOk.one rfl) (fun w1 hw => ?_)
   subst hb0
   cases h
   exact post_of_St hw
  replace h := ite_f h c2
  refine WT.skip <| WT.seq <| WT.region <| lq (q_move rfl) rfl <| lq (q_move rfl) rfl ?_
  obtain ⟨x3, hx3, h⟩ := bind_some h
  obtain ⟨cs2, F2, -, g2, hb2, hs2, r2⟩ := ph0.el (idx_some hx3).2.2
  obtain ⟨v3, G3, v4, G4, rfl, rfl, h3, h4⟩ := r2
  refine lq (q_indexAddr Sl_25 rfl rfl ph0 hx3) rfl <| lq (q_fieldAddr Fld_43_1 rfl) rfl <| lq (q_load1 T1_41 rfl (fun w1 hw => (g2.of_eq 1 1 rfl rfl : rg _ _ _ [v4]).rangeAt hw.fro)) rfl <| lq (q_move rfl) rfl ?_
  obtain ⟨x4, hx4, h⟩ := bind_some h
  refine lp (p_call Fun_167 rfl (fun w1 hw => m_l_heldIntS_ok hw.fro N x3.Neg x2 h4 hx4)) rfl <| lq (q_assign rfl) rfl <| WL.nil <| WT.seq <| WT.region <| lq (q_move rfl) rfl <| lq (q_lss rfl rfl) rfl <| WL.nil ?_
  refine WT.cond rfl (fun c3 => ?_) (fun c3 => ?_)
  ·replace h := ite_t h c3
   refine WT.seq <| WT.region <| lq (q_assign rfl) rfl <| WL.nil ?_
   refine WT.ret Tryz.func100 (resOk.one rfl) (fun w1 hw => ?_)
   subst hb0
   cases h
   exact post_of_St hw
  replace h := ite_f h c3
  refine WT.skip <| WT.inBlock <| WT.region <| lq (q_move rfl) rfl <| lq (q_add rfl rfl) rfl <| lq (q_assign rfl) rfl <| WL.nil ?_
  refine WT.inLoop (WT.mono (l' := [(0, pv0), (1, .int .i64 x4), (5, .int .i64 (IntKind.i64.wrap (s2 + 1)))]) (S' := St w0 Φ [] []) ⟨rfl, rfl, rfl, trivial⟩ (fun w1 hw => (hw.sel (js := []) rfl).selO (js := []) rfl) ?_)
  exact ih1 (x4, IntKind.i64.wrap (s2 + 1)) h
 replace h := ite_f h c1
 refine WT.exit rfl <| WT.seq <| WT.region <| lq (q_move rfl) rfl <| lq (q_assign rfl) rfl <| WL.nil ?_
 refine WT.ret Tryz.func100 (resOk.one rfl) (fun w1 hw => ?_)
 subst hb0
 cases h
 exact post_of_St hw
theorem m_l_heldNet_ok {Φ : Hp} {w : World} (hΦ : In Φ w) (N : Nat) (p0 : TNet) (p1 : Int) {pv0_0 : Value} {pG0_0 : List Nat} {pv0_1 : Value} {pG0_1 : List Nat} (ph0_0 : RSl RTAlpha 4 Φ pG0_0 pv0_0 p0.Alphas) (ph0_1 : RSl RTChain 2 Φ pG0_1 pv0_1 p0.Chains) {r : Int} (h : m_l_heldNet N p0 p1 = some r) :
  Calls Tryz.prog 43 [.agg [pv0_0, pv0_1].toArray, .int .i64 p1].toArray w (Post (.int .i64 r) w) := by
 refine enter Tryz.func43 rfl Tryz.ntmps43 rfl (St.start0 hΦ) ?_
 unfold m_l_heldNet at h
 refine WT.seq <| WT.region ?_
 refine ln (n_box (C := #[pv0_0, pv0_1]) rfl rfl) rfl (fun b_1 => ?_)
 refine lq (q_assign rfl) rfl <| WL.nil <| WT.seq <| WT.region <| lq (q_fieldAddr Fld_27_0 rfl) rfl <| lq (q_load1 T1_24 rfl (fun w1 hw => hw.rgO (i := 0) rfl 0 1 [pv0_0] rfl)) rfl <| lq (q_move rfl) rfl ?_
 obtain ⟨x1, hx1, h⟩ := bind_some h
 refine lp (p_call Fun_99 rfl (fun w1 hw => m_l_heldAlphaS_ok hw.fro N p0.Alphas p1 ph0_0 hx1)) rfl <| lq (q_assign rfl) rfl <| WL.nil <| WT.seq <| WT.seq <| WT.region <| lq (q_move rfl) rfl <| lq (q_lss rfl rfl) rfl <| WL.nil ?_
 refine WT.cond rfl (fun c1 => ?_) (fun c1 => ?_)
 ·replace h := ite_t h c1
  refine WT.seq <| WT.region <| lq (q_assign rfl) rfl <| WL.nil ?_
  refine WT.ret Tryz.func43 (resOk.one rfl) (fun w1 hw => ?_)
  cases h
  exact post_of_St hw
 replace h := ite_f h c1
 refine WT.skip <| WT.seq <| WT.region <| lq (q_fieldAddr Fld_27_1 rfl) rfl <| lq (q_load1 T1_25 rfl (fun w1 hw => hw.rgO (i := 0) rfl 1 1 [pv0_1] rfl)) rfl <| lq (q_move rfl) rfl ?_
 obtain ⟨x2, hx2, h⟩ := bind_some h
 refine lp (p_call Fun_100 rfl (fun w1 hw => m_l_heldChainS_ok hw.fro N p0.Chains x1 ph0_1 hx2)) rfl <| lq (q_assign rfl) rfl <| WL.nil <| WT.seq <| WT.seq <| WT.region <| lq (q_move rfl) rfl <| lq (q_lss rfl rfl) rfl <| WL.nil ?_
 refine WT.cond rfl (fun c2 => ?_) (fun c2 => ?_)
 ·replace h := ite_t h c2
  refine WT.seq <| WT.region <| lq (q_assign rfl) rfl <| WL.nil ?_
  refine WT.ret Tryz.func43 (resOk.one rfl) (fun w1 hw => ?_)
  cases h
  exact post_of_St hw
 replace h := ite_f h c2
 refine WT.skip <| WT.seq <| WT.region <| lq (q_move rfl) rfl <| lq (q_assign rfl) rfl <| WL.nil ?_
 refine WT.ret Tryz.func43 (resOk.one rfl) (fun w1 hw => ?_)
 cases h
 exact post_of_St hw
theorem m_l_FnExactNetOf_ok {Φ : Hp} {w : World} (hΦ : In Φ w) (N : Nat) (p0 : TDef) {pv0_0 : Value} {pG0_0 : List Nat} (ph0_0 : RSl RTRule 5 Φ pG0_0 pv0_0 p0.Rules) {r : Bool} (h : m_l_FnExactNetOf N p0 = some r) :
  Calls Tryz.prog 9 [.agg [.string p0.Name, pv0_0].toArray].toArray w (Post (.bool r) w) := by
 refine enter Tryz.func9 rfl Tryz.ntmps9 rfl (St.start0 hΦ) ?_
 have pa0_0 : Old ⟨w, [], Φ⟩ pG0_0 := Old.mk hΦ ph0_0.kn (Dj.empty _)
 unfold m_l_FnExactNetOf at h
 refine WT.seq <| WT.region ?_
 refine ln (n_box (C := #[.string p0.Name, pv0_0]) rfl rfl) rfl (fun b_1 => ?_)
 refine lq (q_assign rfl) rfl <| WL.nil <| WT.seq <| WT.region <| lq (q_assign rfl) rfl <| WL.nil <| WT.seq <| WT.region <| lq (q_loadN Tn_82 rfl (fun w1 hw => hw.rgO (i := 0) rfl 0 2 [.string p0.Name, pv0_0] rfl) rfl) rfl <| lq (q_move rfl) rfl ?_
 obtain ⟨x1, hx1, h⟩ := bind_some h
 refine lp (p_call Fun_34 rfl (fun w1 hw => m_l_szDef_ok hw.fro N p0 1048576 ph0_0 hx1)) rfl <| lq (q_assign rfl) rfl <| WL.nil <| WT.seq <| WT.seq <| WT.region <| lq (q_move rfl) rfl <| lq (q_lss rfl rfl) rfl <| WL.nil ?_
 refine WT.cond rfl (fun c1 => ?_) (fun c1 => ?_)
 ·replace h := ite_t h c1
  refine WT.seq <| WT.region <| lq (q_assign rfl) rfl <| WL.nil ?_
  refine WT.ret Tryz.func9 (resOk.one rfl) (fun w1 hw => ?_)
  cases h
  exact post_of_St hw
 replace h := ite_f h c1
 refine WT.skip <| WT.seq <| WT.region <| lq (q_loadN Tn_82 rfl (fun w1 hw => hw.rgO (i := 0) rfl 0 2 [.string p0.Name, pv0_0] rfl) rfl) rfl ?_
 obtain ⟨x2, hx2, h⟩ := bind_some h
 refine lc (k_call (js := []) (R := []) Fun_36 rfl rfl (fun w1 hw ap hl => m_l_toDef_ok hw.fro N p0 ph0_0  hx2)) rfl (fun v1 Φ_1 F1 q1 => ?_)
 obtain ⟨ap1, fr1, v2, D1, rfl, rfl, h1⟩ := q1
 replace ph0_0 := ph0_0.frame RTRule.lasts fr1 (ap1.o pa0_0)
 obtain ⟨x3, hx3, h⟩ := bind_some h
 refine lc (k_call (js := []) (R := [ob v2, D1]) Fun_39 rfl rfl (fun w1 hw ap hl => m_s_NetOf_ok hw.fro N x2 (h1.rslG OTRule.gives)  hx3)) rfl (fun v3 Φ_2 F2 q2 => ?_)
 obtain ⟨ap2, fr2, v4, D2, v5, D3, X1, rfl, rfl, h2, i1, h3⟩ := q2
 replace ph0_0 := ph0_0.frame RTRule.lasts fr2 (ap2.o pa0_0)
 refine ln (n_alloc (C := #[.slice none 0 0, .slice none 0 0]) Zr_27 rfl) rfl (fun b_2 => ?_)
 refine ls (s_store (i := 0) (vs := [v4, v5]) (C' := [v4, v5]) (O' := [(b_2, .cells #[v4, v5] 27 (0, 0)), (b_1, .cells #[.string p0.Name, pv0_0] 82 (0, 0))]) Sz_27 rfl rfl rfl rfl rfl rfl ⟨h2.one, h3.one, trivial⟩ rfl rfl) rfl <| WL.nil <| WT.seq <| WT.region <| lq (q_loadN Tn_82 rfl (fun w1 hw => hw.rgO (i := 1) rfl 0 2 [.string p0.Name, pv0_0] rfl) rfl) rfl ?_
 obtain ⟨x5, hx4, h⟩ := bind_some h
 refine lc (k_call (js := []) (R := [ob v4, ob v5, D3, X1, ob v2, D1]) Fun_36 rfl rfl (fun w1 hw ap hl => m_l_toDef_ok hw.fro N p0 ph0_0  hx4)) rfl (fun v6 Φ_3 F3 q3 => ?_)
 obtain ⟨ap3, fr3, v7, D4, rfl, rfl, h4⟩ := q3
 replace ph0_0 := ph0_0.frame RTRule.lasts fr3 (ap3.o pa0_0)
 replace h2 := h2.frame RTAlpha.lasts fr3 (ap3.r (i := 0) rfl) (Dj.sub (ap3.r (i := 3) rfl) i1)
 replace h3 := h3.frame OTChain.lasts fr3 (ap3.r (i := 1) rfl) (ap3.r (i := 2) rfl)
 refine ln (n_alloc (C := #[.string (⟨#[]⟩ : ByteArray), .slice none 0 0]) Zr_30 rfl) rfl (fun b_3 => ?_)
 refine ls (s_store (i := 0) (vs := [.string x5.Name, v7]) (C' := [.string x5.Name, v7]) (O' := [(b_3, .cells #[.string x5.Name, v7] 30 (0, 0)), (b_2, .cells #[v4, v5] 27 (0, 0)), (b_1, .cells #[.string p0.Name, pv0_0] 82 (0, 0))]) Sz_30 rfl rfl rfl rfl rfl rfl ⟨rfl, h4.one, trivial⟩ rfl rfl) rfl <| WL.nil <| WT.seq <| WT.region <| lq (q_loadN Tn_30 rfl (fun w1 hw => hw.rgO (i := 0) rfl 0 2 [.string x5.Name, v7] rfl) rfl) rfl ?_
 obtain ⟨x6, hx5, h⟩ := bind_some h
 refine lc (k_call (js := []) (R := [ob v7, D4, ob v4, ob v5, D3, X1, ob v2, D1]) Fun_40 rfl rfl (fun w1 hw ap hl => m_i_NetOf_ok hw.fro N x5 (h4.rslG OTRule.gives)  hx5)) rfl (fun v8 Φ_4 F4 q4 => ?_)
 obtain ⟨ap4, fr4, v9, D5, v10, D6, rfl, rfl, h5, h6⟩ := q4
 replace ph0_0 := ph0_0.frame RTRule.lasts fr4 (ap4.o pa0_0)
 replace h2 := h2.frame RTAlpha.lasts fr4 (ap4.r (i := 2) rfl) (Dj.sub (ap4.r (i := 5) rfl) i1)
 replace h3 := h3.frame OTChain.lasts fr4 (ap4.r (i := 3) rfl) (ap4.r (i := 4) rfl)
 replace h4 := h4.frame OTRule.lasts fr4 (ap4.r (i := 0) rfl) (ap4.r (i := 1) rfl)
 refine ln (n_alloc (C := #[.slice none 0 0, .slice none 0 0]) Zr_27 rfl) rfl (fun b_4 => ?_)
 refine ls (s_store (i := 0) (vs := [v9, v10]) (C' := [v9, v10]) (O' := [(b_4, .cells #[v9, v10] 27 (0, 0)), (b_3, .cells #[.string x5.Name, v7] 30 (0, 0)), (b_2, .cells #[v4, v5] 27 (0, 0)), (b_1, .cells #[.string p0.Name, pv0_0] 82 (0, 0))]) Sz_27 rfl rfl rfl rfl rfl rfl ⟨h5.one, h6.one, trivial⟩ rfl rfl) rfl <| WL.nil <| WT.seq <| WT.seq <| WT.region <| lq (q_loadN Tn_27 rfl (fun w1 hw => hw.rgO (i := 0) rfl 0 2 [v9, v10] rfl) rfl) rfl ?_
 refine lq (q_loadN Tn_27 rfl (fun w1 hw => hw.rgO (i := 2) rfl 0 2 [v4, v5] rfl) rfl) rfl ?_
 obtain ⟨x7, hx6, h⟩ := bind_some h
 refine lp (p_call Fun_37 rfl (fun w1 hw => m_l_eqNet_ok hw.fro N x6 x3 (h5.rslG OTAlpha.gives) (h6.rslG OTChain.gives) h2.rsl (h3.rslG OTChain.gives) hx6)) rfl <| lq (q_not rfl) rfl <| WL.nil ?_
 refine WT.cond rfl (fun c2 => ?_) (fun c2 => ?_)
 ·replace h := ite_t h c2
  refine WT.seq <| WT.region <| lq (q_assign rfl) rfl <| WL.nil ?_
  refine WT.ret Tryz.func9 (resOk.one rfl) (fun w1 hw => ?_)
  cases h
  exact post_of_St hw
 replace h := ite_f h c2
 refine WT.skip <| WT.seq <| WT.seq <| WT.mix (Kn Φ_4 [] [(b_4, .cells #[v9, v10] 27 (0, 0)), (b_3, .cells #[.string x5.Name, v7] 30 (0, 0)), (b_2, .cells #[v4, v5] 27 (0, 0)), (b_1, .cells #[.string p0.Name, pv0_0] 82 (0, 0))]) (fun _ => true) mixed (fun _ h => h.drew) <| mq 0 rfl (by kernel_rfl) (fun w1 hw => Kn.of (fun k hk _ _ => by simp at hk) (AllIn.mem ⟨List.mem_of_getElem? (i := 0) rfl, List.mem_of_getElem? (i := 1) rfl, List.mem_of_getElem? (i := 2) rfl, List.mem_of_getElem? (i := 3) rfl, trivial⟩) hw) (q_loadN Tn_30 rfl (fun w1 hw => hw.rgO (i := 1) rfl 0 2 [.string x5.Name, v7] rfl) rfl) rfl ?_
 refine mq 1 rfl (by kernel_rfl) (fun w1 hw => Kn.of (fun k hk _ _ => by simp at hk) (AllIn.mem ⟨List.mem_of_getElem? (i := 0) rfl, List.mem_of_getElem? (i := 1) rfl, List.mem_of_getElem? (i := 2) rfl, List.mem_of_getElem? (i := 3) rfl, trivial⟩) hw) (q_loadN Tn_82 rfl (fun w1 hw => hw.rgO (i := 3) rfl 0 2 [.string p0.Name, pv0_0] rfl) rfl) rfl ?_
 obtain ⟨x8, hx7, h⟩ := bind_some h
 refine WM.one 2 (by kernel_rfl) (mc rfl (fun _ v Φx D w1 hq hw => Kn.of (fun k hk _ _ => by simp at hk) (AllIn.mem ⟨List.mem_of_getElem? (i := 0) rfl, List.mem_of_getElem? (i := 1) rfl, List.mem_of_getElem? (i := 2) rfl, List.mem_of_getElem? (i := 3) rfl, trivial⟩) hw) (k_call (js := []) (R := [ob v9, D5, ob v10, D6, ob v7, D4, ob v4, ob v5, D3, X1, ob v2, D1]) Fun_36 rfl rfl (fun w1 hw ap hl => m_l_toDef_ok hw.fro N p0 ph0_0  hx7)) rfl (fun v11 Φ_5 F5 q5 => ?_))
 obtain ⟨ap5, fr5, v12, D7, rfl, rfl, h7⟩ := q5
 replace ph0_0 := ph0_0.frame RTRule.lasts fr5 (ap5.o pa0_0)
 replace h2 := h2.frame RTAlpha.lasts fr5 (ap5.r (i := 6) rfl) (Dj.sub (ap5.r (i := 9) rfl) i1)
 replace h3 := h3.frame OTChain.lasts fr5 (ap5.r (i := 7) rfl) (ap5.r (i := 8) rfl)
 replace h4 := h4.frame OTRule.lasts fr5 (ap5.r (i := 4) rfl) (ap5.r (i := 5) rfl)
 replace h5 := h5.frame OTAlpha.lasts fr5 (ap5.r (i := 0) rfl) (ap5.r (i := 1) rfl)
 replace h6 := h6.frame OTChain.lasts fr5 (ap5.r (i := 2) rfl) (ap5.r (i := 3) rfl)
 obtain ⟨x9, hx8, h⟩ := bind_some h
 refine WM.one 3 (by kernel_rfl) (mp rfl (fun _ w1 hw => Kn.of (fun k hk _ _ => by simp at hk) (AllIn.mem ⟨List.mem_of_getElem? (i := 0) rfl, List.mem_of_getElem? (i := 1) rfl, List.mem_of_getElem? (i := 2) rfl, List.mem_of_getElem? (i := 3) rfl, trivial⟩) hw) (p_call Fun_38 rfl (fun w1 hw => m_l_eqDef_ok hw.fro N x5 x8 (h4.rslG OTRule.gives) (h7.rslG OTRule.gives) hx8)) rfl ?_)
 refine mq 4 rfl (by kernel_rfl) (fun w1 hw => Kn.of (fun k hk _ _ => by simp at hk) (AllIn.mem ⟨List.mem_of_getElem? (i := 0) rfl, List.mem_of_getElem? (i := 1) rfl, List.mem_of_getElem? (i := 2) rfl, List.mem_of_getElem? (i := 3) rfl, trivial⟩) hw) (q_not rfl) rfl <| WM.nil (by kernel_rfl) ?_
 refine WT.cond rfl (fun c3 => ?_) (fun c3 => ?_)
 ·replace h := ite_t h c3
  refine WT.seq <| WT.region <| lq (q_assign rfl) rfl <| WL.nil ?_
  refine WT.ret Tryz.func9 (resOk.one rfl) (fun w1 hw => ?_)
  cases h
  exact post_of_St hw
 replace h := ite_f h c3
 refine WT.skip <| WT.seq <| WT.region <| lq (q_assign rfl) rfl <| WL.nil <| WT.seq <| WT.region <| lq (q_loadN Tn_30 rfl (fun w1 hw => hw.rgO (i := 1) rfl 0 2 [.string x5.Name, v7] rfl) rfl) rfl <| lq (q_move rfl) rfl ?_
 obtain ⟨x10, hx9, h⟩ := bind_some h
 refine lc (k_call (js := [6, 6]) (R := [ob v12, D7, ob v9, D5, ob v10, D6, ob v4, ob v5, D3, X1, ob v2, D1]) Fun_41 rfl rfl (fun w1 hw ap hl => m_l_markDef_ok hw.fro N x5 1 h4 ap.nd hl hx9)) rfl (fun v13 Φ_6 F6 q6 => ?_)
 obtain ⟨ap6, fr6, D8, rfl, rfl, h8⟩ := q6
 replace ph0_0 := ph0_0.frame RTRule.lasts fr6 (ap6.o pa0_0)
 replace h2 := h2.frame RTAlpha.lasts fr6 (ap6.r (i := 6) rfl) (Dj.sub (ap6.r (i := 9) rfl) i1)
 replace h3 := h3.frame OTChain.lasts fr6 (ap6.r (i := 7) rfl) (ap6.r (i := 8) rfl)
 replace h5 := h5.frame OTAlpha.lasts fr6 (ap6.r (i := 2) rfl) (ap6.r (i := 3) rfl)
 replace h6 := h6.frame OTChain.lasts fr6 (ap6.r (i := 4) rfl) (ap6.r (i := 5) rfl)
 refine lq (q_assign rfl) rfl <| WL.nil <| WT.seq <| WT.seq <| WT.region <| lq (q_move rfl) rfl <| lq (q_lss rfl rfl) rfl <| lq (q_move rfl) rfl ?_
 obtain ⟨b1, hb_1, h⟩ := bind_some h
 refine WL.cutN 5 [(42, .bool b1), (1, .pointer (some ⟨b_1, 0, none⟩)), (4, .pointer (some ⟨b_2, 0, none⟩)), (6, .pointer (some ⟨b_4, 0, none⟩))] ?_ (fun K => ?_)
 rotate_left
 ·refine WL.split (d := 37) rfl (fun c4 => ?_) (fun c4 => ?_)
  ·replace hb_1 := ite_t hb_1 c4
   refine WL.no rfl rfl rfl rfl <| WL.no rfl rfl rfl rfl <| WL.no rfl rfl rfl rfl <| WL.no rfl rfl rfl rfl <| WL.q (q_pick1 rfl rfl) rfl rfl rfl ?_
   cases hb_1
   exact WL.keep (by exact ⟨rfl, rfl, rfl, rfl, trivial⟩) K
  ·replace hb_1 := ite_f hb_1 c4
   refine WL.yes rfl rfl <| lq (q_loadN Tn_27 rfl (fun w1 hw => hw.rgO (i := 0) rfl 0 2 [v9, v10] rfl) rfl) rfl <| WL.yes rfl rfl <| lq (q_loadN Tn_27 rfl (fun w1 hw => hw.rgO (i := 2) rfl 0 2 [v4, v5] rfl) rfl) rfl <| WL.yes rfl rfl ?_
   obtain ⟨x11, hx10, hb_1⟩ := bind_some hb_1
   refine lp (p_call Fun_37 rfl (fun w1 hw => m_l_eqNet_ok hw.fro N x6 x3 (h5.rslG OTAlpha.gives) (h6.rslG OTChain.gives) h2.rsl (h3.rslG OTChain.gives) hx10)) rfl <| WL.yes rfl rfl <| lq (q_not rfl) rfl <| WL.q (q_pick0 rfl rfl) rfl rfl rfl ?_
   cases hb_1
   exact WL.keep (by exact ⟨rfl, rfl, rfl, rfl, trivial⟩) K
 refine WL.nil ?_
 refine WT.cond rfl (fun c5 => ?_) (fun c5 => ?_)
 ·replace h := ite_t h c5
  refine WT.seq <| WT.region <| lq (q_assign rfl) rfl <| WL.nil ?_
  refine WT.ret Tryz.func9 (resOk.one rfl) (fun w1 hw => ?_)
  cases h
  exact post_of_St hw
 replace h := ite_f h c5
 refine WT.skip <| WT.seq <| WT.region <| lq (q_assign rfl) rfl <| WL.nil <| WT.seq <| WT.region <| lq (q_loadN Tn_27 rfl (fun w1 hw => hw.rgO (i := 0) rfl 0 2 [v9, v10] rfl) rfl) rfl <| lq (q_move rfl) rfl ?_
 obtain ⟨x12, hx11, h⟩ := bind_some h
 refine lc (k_call (js := [4, 4, 4, 4]) (R := [ob v7, D8, ob v12, D7, ob v4, ob v5, D3, X1, ob v2, D1]) Fun_42 rfl rfl (fun w1 hw ap hl => m_l_markNet_ok hw.fro N x6 1 h5 h6 ap.nd hl hx11)) rfl (fun v14 Φ_7 F7 q7 => ?_)
 obtain ⟨ap7, fr7, D9, D10, rfl, rfl, h9, h10⟩ := q7
 replace ph0_0 := ph0_0.frame RTRule.lasts fr7 (ap7.o pa0_0)
 replace h2 := h2.frame RTAlpha.lasts fr7 (ap7.r (i := 4) rfl) (Dj.sub (ap7.r (i := 7) rfl) i1)
 replace h3 := h3.frame OTChain.lasts fr7 (ap7.r (i := 5) rfl) (ap7.r (i := 6) rfl)
 refine lq (q_assign rfl) rfl <| WL.nil <| WT.seq <| WT.region <| lq (q_assign rfl) rfl <| WL.nil <| WT.seq <| WT.region <| lq (q_loadN Tn_27 rfl (fun w1 hw => hw.rgO (i := 0) rfl 0 2 [v9, v10] rfl) rfl) rfl <| lq (q_move rfl) rfl ?_
 obtain ⟨x13, hx12, h⟩ := bind_some h
 refine lp (p_call Fun_43 rfl (fun w1 hw => m_l_heldNet_ok hw.fro N (⟨x12.2.1, x12.2.2⟩ : TNet) 1 (h9.rslG OTAlpha.gives) (h10.rslG OTChain.gives) hx12)) rfl <| lq (q_assign rfl) rfl <| WL.nil <| WT.seq <| WT.seq <| WT.region <| lq (q_move rfl) rfl <| lq (q_lss rfl rfl) rfl <| WL.nil ?_
 refine WT.cond rfl (fun c6 => ?_) (fun c6 => ?_)
 ·replace h := ite_t h c6
  refine WT.seq <| WT.region <| lq (q_assign rfl) rfl <| WL.nil ?_
  refine WT.ret Tryz.func9 (resOk.one rfl) (fun w1 hw => ?_)
  cases h
  exact post_of_St hw
 replace h := ite_f h c6
 refine WT.skip <| WT.seq <| WT.seq <| WT.region <| lq (q_move rfl) rfl <| lq (q_move rfl) rfl <| lq (q_neq rfl rfl) rfl <| WL.nil ?_
 refine WT.cond rfl (fun c7 => ?_) (fun c7 => ?_)
 ·replace h := ite_t h c7
  refine WT.seq <| WT.region <| lq (q_assign rfl) rfl <| WL.nil ?_
  refine WT.ret Tryz.func9 (resOk.one rfl) (fun w1 hw => ?_)
  cases h
  exact post_of_St hw
 replace h := ite_f h c7
 refine WT.skip <| WT.seq <| WT.region <| lq (q_loadN Tn_82 rfl (fun w1 hw => hw.rgO (i := 3) rfl 0 2 [.string p0.Name, pv0_0] rfl) rfl) rfl ?_
 obtain ⟨x14, hx13, h⟩ := bind_some h
 refine lc (k_call (js := []) (R := [ob v9, D9, ob v10, D10, ob v7, D8, ob v12, D7, ob v4, ob v5, D3, X1, ob v2, D1]) Fun_36 rfl rfl (fun w1 hw ap hl => m_l_toDef_ok hw.fro N p0 ph0_0  hx13)) rfl (fun v15 Φ_8 F8 q8 => ?_)
 obtain ⟨ap8, fr8, v16, D11, rfl, rfl, h11⟩ := q8
 replace h2 := h2.frame RTAlpha.lasts fr8 (ap8.r (i := 8) rfl) (Dj.sub (ap8.r (i := 11) rfl) i1)
 replace h3 := h3.frame OTChain.lasts fr8 (ap8.r (i := 9) rfl) (ap8.r (i := 10) rfl)
 replace h9 := h9.frame OTAlpha.lasts fr8 (ap8.r (i := 0) rfl) (ap8.r (i := 1) rfl)
 replace h10 := h10.frame OTChain.lasts fr8 (ap8.r (i := 2) rfl) (ap8.r (i := 3) rfl)
 obtain ⟨x15, hx14, h⟩ := bind_some h
 refine lc (k_call (js := []) (R := [ob v16, D11, ob v9, D9, ob v10, D10, ob v7, D8, ob v12, D7, ob v4, ob v5, D3, X1, ob v2, D1]) Fun_40 rfl rfl (fun w1 hw ap hl => m_i_NetOf_ok hw.fro N x14 (h11.rslG OTRule.gives)  hx14)) rfl (fun v17 Φ_9 F9 q9 => ?_)
 obtain ⟨ap9, fr9, v18, D12, v19, D13, rfl, rfl, h12, h13⟩ := q9
 replace h2 := h2.frame RTAlpha.lasts fr9 (ap9.r (i := 10) rfl) (Dj.sub (ap9.r (i := 13) rfl) i1)
 replace h3 := h3.frame OTChain.lasts fr9 (ap9.r (i := 11) rfl) (ap9.r (i := 12) rfl)
 replace h9 := h9.frame OTAlpha.lasts fr9 (ap9.r (i := 2) rfl) (ap9.r (i := 3) rfl)
 replace h10 := h10.frame OTChain.lasts fr9 (ap9.r (i := 4) rfl) (ap9.r (i := 5) rfl)
 refine ln (n_alloc (C := #[.slice none 0 0, .slice none 0 0]) Zr_27 rfl) rfl (fun b_5 => ?_)
 refine ls (s_store (i := 0) (vs := [v18, v19]) (C' := [v18, v19]) (O' := [(b_5, .cells #[v18, v19] 27 (0, 0)), (b_4, .cells #[v9, v10] 27 (0, 0)), (b_3, .cells #[.string x5.Name, v7] 30 (0, 0)), (b_2, .cells #[v4, v5] 27 (0, 0)), (b_1, .cells #[.string p0.Name, pv0_0] 82 (0, 0))]) Sz_27 rfl rfl rfl rfl rfl rfl ⟨h12.one, h13.one, trivial⟩ rfl rfl) rfl <| WL.nil <| WT.seq <| WT.seq <| WT.region <| lq (q_loadN Tn_27 rfl (fun w1 hw => hw.rgO (i := 0) rfl 0 2 [v18, v19] rfl) rfl) rfl ?_
 refine lq (q_loadN Tn_27 rfl (fun w1 hw => hw.rgO (i := 3) rfl 0 2 [v4, v5] rfl) rfl) rfl ?_
 obtain ⟨x16, hx15, h⟩ := bind_some h
 refine lp (p_call Fun_37 rfl (fun w1 hw => m_l_eqNet_ok hw.fro N x15 x3 (h12.rslG OTAlpha.gives) (h13.rslG OTChain.gives) h2.rsl (h3.rslG OTChain.gives) hx15)) rfl <| lq (q_not rfl) rfl <| WL.nil ?_
 refine WT.cond rfl (fun c8 => ?_) (fun c8 => ?_)
 ·replace h := ite_t h c8
  refine WT.seq <| WT.region <| lq (q_assign rfl) rfl <| WL.nil ?_
  refine WT.ret Tryz.func9 (resOk.one rfl) (fun w1 hw => ?_)
  cases h
  exact post_of_St hw
 replace h := ite_f h c8
 refine WT.skip <| WT.seq <| WT.region <| lq (q_assign rfl) rfl <| WL.nil <| WT.seq <| WT.region <| lq (q_loadN Tn_27 rfl (fun w1 hw => hw.rgO (i := 1) rfl 0 2 [v9, v10] rfl) rfl) rfl <| lq (q_move rfl) rfl ?_
 obtain ⟨x17, hx16, h⟩ := bind_some h
 refine lp (p_call Fun_43 rfl (fun w1 hw => m_l_heldNet_ok hw.fro N (⟨x12.2.1, x12.2.2⟩ : TNet) 1 (h9.rslG OTAlpha.gives) (h10.rslG OTChain.gives) hx16)) rfl <| lq (q_assign rfl) rfl <| WL.nil <| WT.seq <| WT.seq <| WT.region <| lq (q_move rfl) rfl <| lq (q_lss rfl rfl) rfl <| WL.nil ?_
 refine WT.cond rfl (fun c9 => ?_) (fun c9 => ?_)
 ·replace h := ite_t h c9
  refine WT.seq <| WT.region <| lq (q_assign rfl) rfl <| WL.nil ?_
  refine WT.ret Tryz.func9 (resOk.one rfl) (fun w1 hw => ?_)
  cases h
  exact post_of_St hw
 replace h := ite_f h c9
 refine WT.skip <| WT.seq <| WT.seq <| WT.region <| lq (q_move rfl) rfl <| lq (q_move rfl) rfl <| lq (q_neq rfl rfl) rfl <| WL.nil ?_
 refine WT.cond rfl (fun c10 => ?_) (fun c10 => ?_)
 ·replace h := ite_t h c10
  refine WT.seq <| WT.region <| lq (q_assign rfl) rfl <| WL.nil ?_
  refine WT.ret Tryz.func9 (resOk.one rfl) (fun w1 hw => ?_)
  cases h
  exact post_of_St hw
 replace h := ite_f h c10
 refine WT.skip <| WT.seq <| WT.region <| lq (q_assign rfl) rfl <| WL.nil ?_
 refine WT.ret Tryz.func9 (resOk.one rfl) (fun w1 hw => ?_)
 cases h
 exact post_of_St hw
end Go.Proofs.YtjangilipfjcmaaGreat
