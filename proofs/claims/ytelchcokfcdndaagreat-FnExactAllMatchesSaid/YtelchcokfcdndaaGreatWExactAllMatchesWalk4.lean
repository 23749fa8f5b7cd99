/- Printed by a program of ours: each Go function computes its Lean function. -/
import Derived.Test.YtelchcokfcdndaaGreatProg
import Derived.Test.YtelchcokfcdndaaGreatWExactAllMatchesWalk3
namespace Go.Proofs.YtelchcokfcdndaaGreat
open Eng
open Go.RowKit (Below)
set_option linter.unusedVariables false
set_option linter.unusedSimpArgs false

set_option maxRecDepth 100000
set_option maxHeartbeats 1000000
theorem m_s_l11Rows_ok (N : Nat) : ∀ {Φ : Hp} {w : World} (hΦ : In Φ w) (p0 : (List TMatch)) (p1 : TRule) (p2 : TStore) (p3 : (List Int)) (p4 : (List TBind)) {pv0 pv1_0 pv1_1 pv1_2 pv2_0 pv3 pv4 : Value} {pD0 pG1_0 pG1_1 pG1_2 pG2_0 pG3 pG4 : List Nat} {pb0 : Nat} (ph0 : OSl OTMatch 44 3 Φ pD0 pv0 p0) (pp0 : Φ pb0 = some (.cells #[pv0] 32 (0, 0))) (ph1_0 : RSl RTPat 3 Φ pG1_0 pv1_0 p1.Pats) (ph1_1 : RSl RTCond 11 Φ pG1_1 pv1_1 p1.Conds) (ph1_2 : RSl RTAct 5 Φ pG1_2 pv1_2 p1.Acts) (ph2_0 : RSl RTItem 3 Φ pG2_0 pv2_0 p2.Items) (ph3 : RSl (RI .i64) 1 Φ pG3 pv3 p3) (ph4 : RSl RTBind 4 Φ pG4 pv4 p4) (pd1_0 : Dj pG1_0 [[pb0], ob pv0, pD0].flatten) (pd1_1 : Dj pG1_1 [[pb0], ob pv0, pD0].flatten) (pd1_2 : Dj pG1_2 [[pb0], ob pv0, pD0].flatten) (pd2_0 : Dj pG2_0 [[pb0], ob pv0, pD0].flatten) (pd3 : Dj pG3 [[pb0], ob pv0, pD0].flatten) (pd4 : Dj pG4 [[pb0], ob pv0, pD0].flatten) (hB : [[pb0], ob pv0, pD0].flatten.Nodup) (hlt : ∀ k ∈ [[pb0], ob pv0, pD0].flatten, k < w.heap.size) {r : (List TMatch)} (h : m_s_l11Rows N p0 p1 p2 p3 p4 = some r),
  Calls Tryz.prog 105 [.pointer (some ⟨pb0, 0, none⟩), .agg [.string p1.Name, .int .i64 p1.Sal, pv1_0, pv1_1, pv1_2].toArray, .agg [pv2_0, .int .i64 p2.Next].toArray, pv3, pv4].toArray w (PostG Φ w [[pb0], ob pv0, pD0].flatten (fun Φ' Fs v => ∃ (so_0_0 : Value) (Do_0_0 : List Nat), v = .tuple #[] ∧ Fs = [[pb0], ob so_0_0, Do_0_0] ∧ OSl OTMatch 44 3 Φ' Do_0_0 so_0_0 r ∧ Φ' pb0 = some (.cells #[so_0_0] 32 (0, 0)))) := by
 induction N with
 | zero => intros; rename_i h; simp [m_s_l11Rows] at h
 | succ N ih =>
 intro Φ w hΦ p0 p1 p2 p3 p4 pv0 pv1_0 pv1_1 pv1_2 pv2_0 pv3 pv4 pD0 pG1_0 pG1_1 pG1_2 pG2_0 pG3 pG4 pb0 ph0 pp0 ph1_0 ph1_1 ph1_2 ph2_0 ph3 ph4 pd1_0 pd1_1 pd1_2 pd2_0 pd3 pd4 hB hlt r h
 refine enter Tryz.func105 rfl Tryz.ntmps105 rfl (St.start hΦ [[pb0], ob pv0, pD0] hB hlt) ?_
 have pa1_0 := Old.mk hΦ ph1_0.kn pd1_0
 have pa1_1 := Old.mk hΦ ph1_1.kn pd1_1
 have pa1_2 := Old.mk hΦ ph1_2.kn pd1_2
 have pa2_0 := Old.mk hΦ ph2_0.kn pd2_0
 have pa3 := Old.mk hΦ ph3.kn pd3
 have pa4 := Old.mk hΦ ph4.kn pd4
 revert pa1_0 pa1_1 pa1_2 pa2_0 pa3 pa4
 generalize hb0 : (⟨w, [[pb0], ob pv0, pD0].flatten, Φ⟩ : Base) = w0
 intro pa1_0 pa1_1 pa1_2 pa2_0 pa3 pa4
 unfold m_s_l11Rows at h
 refine sr ?_
 refine ln (nb rfl) rfl (fun b_1 => ?_)
 refine ln (nb rfl) rfl (fun b_2 => ?_)
 refine en <| sq <| sr <| la rfl <| lq (q_lenR Sl_41 rfl rfl ph3) rfl <| ld5 Tn_40 1 rfl ?_
 obtain ⟨x1, hx1, h⟩ := bs h
 refine lp (p_call Fun_89 rfl (fun w1 hw => m_s_PosCount_ok hw.fro N p1 ph1_0 ph1_1 ph1_2 hx1)) rfl <| la rfl <| en ?_
 refine cdh rfl h (fun c1 h => ?_) (fun c1 h => ?_)
 ·refine sq <| sr <| ld5 Tn_40 1 rfl <| ld2 Tn_29 0 rfl <| la rfl ?_
  obtain ⟨x2, hx2, h⟩ := bs h
  refine lp (p_call Fun_161 rfl (fun w1 hw => m_s_Blocked_ok hw.fro N p1 p2 p4 ph1_0 ph1_1 ph1_2 ph2_0 ph4 hx2)) rfl <| la rfl <| la rfl ?_
  obtain ⟨b1, hb_1, h⟩ := bs h
  refine WL.cutN 5 [(28, .bool b1), (0, .pointer (some ⟨pb0, 0, none⟩)), (3, pv3), (4, pv4)] ?_ (fun K => ?_)
  rotate_left
  ·refine spl 23 rfl hb_1 (fun c2 hb_1 => ?_) (fun c2 hb_1 => ?_)
   ·refine ly rfl rfl <| lf Fld_40_3 rfl rfl rfl <| ly rfl rfl <| lo T1_37 1 rfl <| ly rfl rfl <| la rfl <| ly rfl rfl ?_
    obtain ⟨x3, hx3, hb_1⟩ := bs hb_1
    refine lp (p_call Fun_162 rfl (fun w1 hw => m_s_HoldAll_ok hw.fro N p1.Conds p4 ph1_1 ph4 hx3)) rfl <| la rfl ?_
    cases hb_1
    exact kk K ⟨rfl, rfl, rfl, rfl, trivial⟩
   ·refine la rfl <| la rfl <| la rfl <| la rfl <| la rfl ?_
    cases hb_1
    exact kk K ⟨rfl, rfl, rfl, rfl, trivial⟩
  refine en ?_
  refine cdh rfl h (fun c3 h => ?_) (fun c3 h => ?_)
  ·refine cut (σ := Hp × (List TMatch) × Value × List Nat) (fun s => []) (fun s => St w0 s.1 [(pb0, .cells #[s.2.2.1] 32 (0, 0))] [s.2.2.2, ob s.2.2.1]) (fun s => m_s_l11Rows_j1 N s.2.1 = some r ∧ (OSl OTMatch 44 3 s.1 s.2.2.2 s.2.2.1 s.2.1)) (fun s hm => ?_) (fun K => ?_)
   ·clear h
    obtain ⟨Φ_8, s1, u1, D7⟩ := s
    obtain ⟨h, k1⟩ := hm
    dsimp only at h k1 ⊢
    unfold m_s_l11Rows_j1 at h
    refine WT.frz (js := [0]) (R := []) rfl (fun Φ_9 fr8 k2 => ?_)
    replace k1 := k1.frame OTMatch.lasts fr8 (Dj.empty _) (Dj.empty _)
    refine WT.ret Tryz.func105 resOk.none (fun w1 hw => ?_)
    subst hb0
    cases h
    refine postG_of_St (js := [0, 1, 0]) hw rfl ⟨u1, D7, rfl, rfl, k1, k2⟩
   refine WT.mix (Kn Φ [pb0] [(b_2, .cells #[pv2_0, .int .i64 p2.Next] 29 (0, 0)), (b_1, .cells #[.string p1.Name, .int .i64 p1.Sal, pv1_0, pv1_1, pv1_2] 40 (0, 0))]) (fun i => match i with | 14 => false | _ => true) mixed (fun _ h => h.drew) <| ma 0 rfl (by kernel_rfl) (kn Kf.id (ai2 0 1 rfl rfl)) rfl <| ma 1 rfl (by kernel_rfl) (kn Kf.id (ai2 0 1 rfl rfl)) rfl <| mq 2 rfl (by kernel_rfl) (kn Kf.id (ai2 0 1 rfl rfl)) (q_nilCheck rfl) rfl ?_
   refine mq 3 rfl (by kernel_rfl) (kn Kf.id (ai2 0 1 rfl rfl)) (q_load1 T1_32 rfl (fun w1 hw => hw.rg (by simp) ((rg_cells pp0).of_eq 0 1 rfl rfl : rg _ _ _ [pv0]))) rfl <| ma 5 rfl (by kernel_rfl) (kn Kf.id (ai2 0 1 rfl rfl)) rfl <| ma 8 rfl (by kernel_rfl) (kn Kf.id (ai2 0 1 rfl rfl)) rfl ?_
   refine WM.two 4 7 (by kernel_rfl) ?_ ?_
   ·refine me rfl (fun _ v Φx D w1 hq hw => Kn.of (Kf.id.se hq.1) (ai2 0 1 rfl rfl) hw) (e_lit0 (R := RI .i64) RI.lasts Sl_41 Zr_3 rfl rfl) rfl (fun v7 Φ_10 D8 q7 => ?_)
    obtain ⟨fr9, h7⟩ := q7
    replace ph3 := ph3.frame RI.lasts fr9 (Dj.empty _)
    replace ph4 := ph4.frame RTBind.lasts fr9 (Dj.empty _)
    replace ph0 := ph0.frame OTMatch.lasts fr9 (Dj.empty _) (Dj.empty _)
    replace pp0 := fr9 _ _ (by simp) pp0
    refine WM.two 6 7 (by kernel_rfl) ?_ ?_
    ·obtain ⟨x7, hx7, h⟩ := bs h
     have kf1 := (Kf.id (F := [pb0]) : Kf Φ _ _).se fr9
     refine me rfl (fun _ v Φx D w1 hq hw => Kn.of (kf1.st hq.1.2 (hq.1.1.r (i := 0) rfl)) (ai2 0 1 rfl rfl) hw) (e_appF RI.lasts RI.one RI.flat Sl_41 Ei_3 rfl rfl rfl rfl rfl (js := [0]) (Rr := [[pb0], ob pv0, pD0]) rfl h7 ph3 hx7) rfl (fun v8 Φ_11 D9 q8 => ?_)
     obtain ⟨⟨ap5, fr10⟩, h8⟩ := q8
     replace ph4 := ph4.frame RTBind.lasts fr10 (ap5.o pa4)
     replace ph0 := ph0.frame OTMatch.lasts fr10 (ap5.r (i := 1) rfl) (ap5.r (i := 2) rfl)
     replace pp0 := fr10 _ _ ((ap5.r (i := 0) rfl) _ (by simp)) pp0
     have kf2 := kf1.st fr10 (ap5.r (i := 0) rfl)
     refine WM.one 7 (by kernel_rfl) (me rfl (fun _ v Φx D w1 hq hw => Kn.of (kf2.se hq.1) (ai2 0 1 rfl rfl) hw) (e_lit0 RTBind.lasts Sl_42 Zr_87 rfl rfl) rfl (fun v9 Φ_12 D10 q9 => ?_))
     obtain ⟨fr11, h9⟩ := q9
     replace ph4 := ph4.frame RTBind.lasts fr11 (Dj.empty _)
     replace ph0 := ph0.frame OTMatch.lasts fr11 (Dj.empty _) (Dj.empty _)
     replace h8 := h8.frame RI.lasts fr11 (Dj.empty _) (Dj.empty _)
     replace pp0 := fr11 _ _ (by simp) pp0
     obtain ⟨x8, hx8, h⟩ := bs h
     have kf3 := kf2.se fr11
     refine WM.one 9 (by kernel_rfl) (me rfl (fun _ v Φx D w1 hq hw => Kn.of (kf3.st hq.1.2 (hq.1.1.r (i := 1) rfl)) (ai2 0 1 rfl rfl) hw) (e_appF RTBind.lasts RTBind.one RTBind.flat Sl_42 Ei_87 rfl rfl rfl rfl rfl (js := [0]) (Rr := [ob v8, [pb0], ob pv0, pD0]) rfl h9 ph4 hx8) rfl (fun v10 Φ_13 D11 q10 => ?_))
     obtain ⟨⟨ap6, fr12⟩, h10⟩ := q10
     replace ph0 := ph0.frame OTMatch.lasts fr12 (ap6.r (i := 2) rfl) (ap6.r (i := 3) rfl)
     replace h8 := h8.frame RI.lasts fr12 (ap6.r (i := 0) rfl) (Dj.nil _)
     replace pp0 := fr12 _ _ ((ap6.r (i := 1) rfl) _ (by simp)) pp0
     have kf4 := kf3.st fr12 (ap6.r (i := 1) rfl)
     refine mq 10 rfl (by kernel_rfl) (kn kf4 (ai2 0 1 rfl rfl)) (q_build (vs := [(1, v8), (2, v10)]) (C := #[.int .i64 0, v8, v10]) Pl_44 Zr_44 rfl (fill_cons (C' := [.int .i64 0, v8, .slice none 0 0]) rfl (one_cells h8.one) rfl rfl rfl (fill_cons (C' := [.int .i64 0, v8, v10]) rfl (one_cells h10.one) rfl rfl rfl (fill_nil)))) rfl ?_
     have rc6 : RC OTMatch 3 Φ_13 ([(ob v8 ++ []) ++ ((ob v10 ++ []))] : List (List Nat)) [.int .i64 0, v8, v10] ([(⟨0, x7, x8⟩ : TMatch)] : List TMatch) := RC.cons (c := [.int .i64 0, v8, v10]) (cells := []) ⟨v8, v10, rfl, rfl, h8, h10⟩ rfl (RC.nil _ _ _)
     refine WM.one 11 (by kernel_rfl) (me rfl (fun _ v Φx D w1 hq hw => Kn.of (kf4.se hq.1) (ai2 0 1 rfl rfl) hw) (e_lit (vs := [(0, .agg [.int .i64 0, v8, v10].toArray)]) (C := #[.int .i64 0, v8, v10]) OTMatch.lasts Sl_32 Zr_44 rfl rfl rfl rfl (fill_made MC_44_1 (fill_cons (C' := [.int .i64 0, v8, v10]) rfl rfl rfl rfl rfl (fill_nil))) rfl rc6 rfl (RC.kn OTMatch.knows rc6)) rfl (fun v11 Φ_14 D12 q11 => ?_))
     obtain ⟨fr13, h11⟩ := q11
     replace h11 : OSl OTMatch 44 3 Φ_14 ((ob v8 ++ []) ++ ((ob v10 ++ []))) v11 ([(⟨0, x7, x8⟩ : TMatch)] : List TMatch) := by simpa [List.append_assoc] using h11
     replace ph0 := ph0.frame OTMatch.lasts fr13 (Dj.empty _) (Dj.empty _)
     replace pp0 := fr13 _ _ (by simp) pp0
     refine WM.conv (S' := St w0 Φ_14 [(b_2, .cells #[pv2_0, .int .i64 p2.Next] 29 (0, 0)), (b_1, .cells #[.string p1.Name, .int .i64 p1.Sal, pv1_0, pv1_1, pv1_2] 40 (0, 0))] [((ob v8 ++ []) ++ ((ob v10 ++ []))), ob v11, [pb0], ob pv0, pD0]) (fun w1 hw => hw.merge (js := [2, 1]) rfl (SP.eq (by simp [List.append_assoc, ob_nil]))) ?_
     obtain ⟨x9, hx9, h⟩ := bs h
     have kf5 := kf4.se fr13
     refine WM.one 12 (by kernel_rfl) (me rfl (fun _ v Φx D w1 hq hw => Kn.of (kf5.st hq.1.2 (hq.1.1.r (i := 2) rfl)) (ai2 0 1 rfl rfl) hw) (e_appO OTMatch.lasts OTMatch.one Sl_32 Ei_44 rfl rfl rfl rfl rfl (js := [3]) (Rr := [((ob v8 ++ []) ++ ((ob v10 ++ []))), ob v11, [pb0], pD0]) rfl ph0 h11 (fun ap => (ap.r (i := 3) rfl)) (fun ap => (ap.r (i := 0) rfl)) hx9) rfl (fun v12 Φ_15 D13 q12 => ?_))
     obtain ⟨⟨ap7, fr14⟩, h12⟩ := q12
     replace pp0 := fr14 _ _ ((ap7.r (i := 2) rfl) _ (by simp)) pp0
     refine WM.conv (S' := St w0 Φ_15 [(b_2, .cells #[pv2_0, .int .i64 p2.Next] 29 (0, 0)), (b_1, .cells #[.string p1.Name, .int .i64 p1.Sal, pv1_0, pv1_1, pv1_2] 40 (0, 0))] [(pD0 ++ ((ob v8 ++ []) ++ ((ob v10 ++ [])))), ob v12, ob v11, [pb0]]) (fun w1 hw => hw.merge (js := [4, 1]) rfl (SP.eq (by simp))) ?_
     have kf6 := kf5.st fr14 (ap7.r (i := 2) rfl)
     refine mq 13 rfl (by kernel_rfl) (kn kf6 (ai2 0 1 rfl rfl)) (q_nilCheck rfl) rfl ?_
     refine WM.thw (js := [3]) (R := [(pD0 ++ ((ob v8 ++ []) ++ ((ob v10 ++ [])))), ob v12, ob v11]) rfl pp0 (fun Φ_16 ap8 fr15 => ?_)
     replace h12 := h12.frame OTMatch.lasts fr15 (ap8.r (i := 1) rfl) (ap8.r (i := 0) rfl)
     refine WM.one 14 (by kernel_rfl) (ms rfl (fun hc => by cases hc) (s_store (i := 0) (vs := [v12]) (C' := [v12]) (O' := [(pb0, .cells #[v12] 32 (0, 0)), (b_2, .cells #[pv2_0, .int .i64 p2.Next] 29 (0, 0)), (b_1, .cells #[.string p1.Name, .int .i64 p1.Sal, pv1_0, pv1_1, pv1_2] 40 (0, 0))]) Sz_32 rfl rfl rfl (one_cells h12.one) rfl rfl ⟨h12.one, trivial⟩ rfl rfl) rfl ?_)
     refine WM.nil (by kernel_rfl) ?_
     exact wto (K (Φ_16, x9, v12, (pD0 ++ ((ob v8 ++ []) ++ ((ob v10 ++ []))))) ⟨h, h12⟩) trivial (fun w1 hw => (hw.sel (js := [0, 0]) rfl).selO (js := [0]) rfl)
    have kf7 := (Kf.id (F := [pb0]) : Kf Φ _ _).se fr9
    refine me rfl (fun _ v Φx D w1 hq hw => Kn.of (kf7.se hq.1) (ai2 0 1 rfl rfl) hw) (e_lit0 RTBind.lasts Sl_42 Zr_87 rfl rfl) rfl (fun v13 Φ_17 D14 q13 => ?_)
    obtain ⟨fr16, h13⟩ := q13
    replace ph3 := ph3.frame RI.lasts fr16 (Dj.empty _)
    replace ph4 := ph4.frame RTBind.lasts fr16 (Dj.empty _)
    replace ph0 := ph0.frame OTMatch.lasts fr16 (Dj.empty _) (Dj.empty _)
    replace h7 := h7.frame RI.lasts fr16 (Dj.empty _) (Dj.empty _)
    replace pp0 := fr16 _ _ (by simp) pp0
    obtain ⟨x10, hx10, h⟩ := bs h
    have kf8 := kf7.se fr16
    refine WM.one 6 (by kernel_rfl) (me rfl (fun _ v Φx D w1 hq hw => Kn.of (kf8.st hq.1.2 (hq.1.1.r (i := 1) rfl)) (ai2 0 1 rfl rfl) hw) (e_appF RI.lasts RI.one RI.flat Sl_41 Ei_3 rfl rfl rfl rfl rfl (js := [1]) (Rr := [ob v13, [pb0], ob pv0, pD0]) rfl h7 ph3 hx10) rfl (fun v14 Φ_18 D15 q14 => ?_))
    obtain ⟨⟨ap9, fr17⟩, h14⟩ := q14
    replace ph4 := ph4.frame RTBind.lasts fr17 (ap9.o pa4)
    replace ph0 := ph0.frame OTMatch.lasts fr17 (ap9.r (i := 2) rfl) (ap9.r (i := 3) rfl)
    replace h13 := h13.frame RTBind.lasts fr17 (ap9.r (i := 0) rfl) (Dj.nil _)
    replace pp0 := fr17 _ _ ((ap9.r (i := 1) rfl) _ (by simp)) pp0
    obtain ⟨x11, hx11, h⟩ := bs h
    have kf9 := kf8.st fr17 (ap9.r (i := 1) rfl)
    refine WM.one 9 (by kernel_rfl) (me rfl (fun _ v Φx D w1 hq hw => Kn.of (kf9.st hq.1.2 (hq.1.1.r (i := 1) rfl)) (ai2 0 1 rfl rfl) hw) (e_appF RTBind.lasts RTBind.one RTBind.flat Sl_42 Ei_87 rfl rfl rfl rfl rfl (js := [1]) (Rr := [ob v14, [pb0], ob pv0, pD0]) rfl h13 ph4 hx11) rfl (fun v15 Φ_19 D16 q15 => ?_))
    obtain ⟨⟨ap10, fr18⟩, h15⟩ := q15
    replace ph0 := ph0.frame OTMatch.lasts fr18 (ap10.r (i := 2) rfl) (ap10.r (i := 3) rfl)
    replace h14 := h14.frame RI.lasts fr18 (ap10.r (i := 0) rfl) (Dj.nil _)
    replace pp0 := fr18 _ _ ((ap10.r (i := 1) rfl) _ (by simp)) pp0
    have kf10 := kf9.st fr18 (ap10.r (i := 1) rfl)
    refine mq 10 rfl (by kernel_rfl) (kn kf10 (ai2 0 1 rfl rfl)) (q_build (vs := [(1, v14), (2, v15)]) (C := #[.int .i64 0, v14, v15]) Pl_44 Zr_44 rfl (fill_cons (C' := [.int .i64 0, v14, .slice none 0 0]) rfl (one_cells h14.one) rfl rfl rfl (fill_cons (C' := [.int .i64 0, v14, v15]) rfl (one_cells h15.one) rfl rfl rfl (fill_nil)))) rfl ?_
    have rc8 : RC OTMatch 3 Φ_19 ([(ob v14 ++ []) ++ ((ob v15 ++ []))] : List (List Nat)) [.int .i64 0, v14, v15] ([(⟨0, x10, x11⟩ : TMatch)] : List TMatch) := RC.cons (c := [.int .i64 0, v14, v15]) (cells := []) ⟨v14, v15, rfl, rfl, h14, h15⟩ rfl (RC.nil _ _ _)
    refine WM.one 11 (by kernel_rfl) (me rfl (fun _ v Φx D w1 hq hw => Kn.of (kf10.se hq.1) (ai2 0 1 rfl rfl) hw) (e_lit (vs := [(0, .agg [.int .i64 0, v14, v15].toArray)]) (C := #[.int .i64 0, v14, v15]) OTMatch.lasts Sl_32 Zr_44 rfl rfl rfl rfl (fill_made MC_44_1 (fill_cons (C' := [.int .i64 0, v14, v15]) rfl rfl rfl rfl rfl (fill_nil))) rfl rc8 rfl (RC.kn OTMatch.knows rc8)) rfl (fun v16 Φ_20 D17 q16 => ?_))
    obtain ⟨fr19, h16⟩ := q16
    replace h16 : OSl OTMatch 44 3 Φ_20 ((ob v14 ++ []) ++ ((ob v15 ++ []))) v16 ([(⟨0, x10, x11⟩ : TMatch)] : List TMatch) := by simpa [List.append_assoc] using h16
    replace ph0 := ph0.frame OTMatch.lasts fr19 (Dj.empty _) (Dj.empty _)
    replace pp0 := fr19 _ _ (by simp) pp0
    refine WM.conv (S' := St w0 Φ_20 [(b_2, .cells #[pv2_0, .int .i64 p2.Next] 29 (0, 0)), (b_1, .cells #[.string p1.Name, .int .i64 p1.Sal, pv1_0, pv1_1, pv1_2] 40 (0, 0))] [((ob v14 ++ []) ++ ((ob v15 ++ []))), ob v16, [pb0], ob pv0, pD0]) (fun w1 hw => hw.merge (js := [2, 1]) rfl (SP.eq (by simp [List.append_assoc, ob_nil]))) ?_
    obtain ⟨x12, hx12, h⟩ := bs h
    have kf11 := kf10.se fr19
    refine WM.one 12 (by kernel_rfl) (me rfl (fun _ v Φx D w1 hq hw => Kn.of (kf11.st hq.1.2 (hq.1.1.r (i := 2) rfl)) (ai2 0 1 rfl rfl) hw) (e_appO OTMatch.lasts OTMatch.one Sl_32 Ei_44 rfl rfl rfl rfl rfl (js := [3]) (Rr := [((ob v14 ++ []) ++ ((ob v15 ++ []))), ob v16, [pb0], pD0]) rfl ph0 h16 (fun ap => (ap.r (i := 3) rfl)) (fun ap => (ap.r (i := 0) rfl)) hx12) rfl (fun v17 Φ_21 D18 q17 => ?_))
    obtain ⟨⟨ap11, fr20⟩, h17⟩ := q17
    replace pp0 := fr20 _ _ ((ap11.r (i := 2) rfl) _ (by simp)) pp0
    refine WM.conv (S' := St w0 Φ_21 [(b_2, .cells #[pv2_0, .int .i64 p2.Next] 29 (0, 0)), (b_1, .cells #[.string p1.Name, .int .i64 p1.Sal, pv1_0, pv1_1, pv1_2] 40 (0, 0))] [(pD0 ++ ((ob v14 ++ []) ++ ((ob v15 ++ [])))), ob v17, ob v16, [pb0]]) (fun w1 hw => hw.merge (js := [4, 1]) rfl (SP.eq (by simp))) ?_
    have kf12 := kf11.st fr20 (ap11.r (i := 2) rfl)
    refine mq 13 rfl (by kernel_rfl) (kn kf12 (ai2 0 1 rfl rfl)) (q_nilCheck rfl) rfl ?_
    refine WM.thw (js := [3]) (R := [(pD0 ++ ((ob v14 ++ []) ++ ((ob v15 ++ [])))), ob v17, ob v16]) rfl pp0 (fun Φ_22 ap12 fr21 => ?_)
    replace h17 := h17.frame OTMatch.lasts fr21 (ap12.r (i := 1) rfl) (ap12.r (i := 0) rfl)
    refine WM.one 14 (by kernel_rfl) (ms rfl (fun hc => by cases hc) (s_store (i := 0) (vs := [v17]) (C' := [v17]) (O' := [(pb0, .cells #[v17] 32 (0, 0)), (b_2, .cells #[pv2_0, .int .i64 p2.Next] 29 (0, 0)), (b_1, .cells #[.string p1.Name, .int .i64 p1.Sal, pv1_0, pv1_1, pv1_2] 40 (0, 0))]) Sz_32 rfl rfl rfl (one_cells h17.one) rfl rfl ⟨h17.one, trivial⟩ rfl rfl) rfl ?_)
    refine WM.nil (by kernel_rfl) ?_
    exact wto (K (Φ_22, x12, v17, (pD0 ++ ((ob v14 ++ []) ++ ((ob v15 ++ []))))) ⟨h, h17⟩) trivial (fun w1 hw => (hw.sel (js := [0, 0]) rfl).selO (js := [0]) rfl)
   refine me rfl (fun _ v Φx D w1 hq hw => Kn.of (Kf.id.se hq.1) (ai2 0 1 rfl rfl) hw) (e_lit0 RTBind.lasts Sl_42 Zr_87 rfl rfl) rfl (fun v18 Φ_23 D19 q18 => ?_)
   obtain ⟨fr22, h18⟩ := q18
   replace ph3 := ph3.frame RI.lasts fr22 (Dj.empty _)
   replace ph4 := ph4.frame RTBind.lasts fr22 (Dj.empty _)
   replace ph0 := ph0.frame OTMatch.lasts fr22 (Dj.empty _) (Dj.empty _)
   replace pp0 := fr22 _ _ (by simp) pp0
   have kf13 := (Kf.id (F := [pb0]) : Kf Φ _ _).se fr22
   refine WM.one 4 (by kernel_rfl) (me rfl (fun _ v Φx D w1 hq hw => Kn.of (kf13.se hq.1) (ai2 0 1 rfl rfl) hw) (e_lit0 (R := RI .i64) RI.lasts Sl_41 Zr_3 rfl rfl) rfl (fun v19 Φ_24 D20 q19 => ?_))
   obtain ⟨fr23, h19⟩ := q19
   replace ph3 := ph3.frame RI.lasts fr23 (Dj.empty _)
   replace ph4 := ph4.frame RTBind.lasts fr23 (Dj.empty _)
   replace ph0 := ph0.frame OTMatch.lasts fr23 (Dj.empty _) (Dj.empty _)
   replace h18 := h18.frame RTBind.lasts fr23 (Dj.empty _) (Dj.empty _)
   replace pp0 := fr23 _ _ (by simp) pp0
   obtain ⟨x13, hx13, h⟩ := bs h
   have kf14 := kf13.se fr23
   refine WM.one 6 (by kernel_rfl) (me rfl (fun _ v Φx D w1 hq hw => Kn.of (kf14.st hq.1.2 (hq.1.1.r (i := 1) rfl)) (ai2 0 1 rfl rfl) hw) (e_appF RI.lasts RI.one RI.flat Sl_41 Ei_3 rfl rfl rfl rfl rfl (js := [0]) (Rr := [ob v18, [pb0], ob pv0, pD0]) rfl h19 ph3 hx13) rfl (fun v20 Φ_25 D21 q20 => ?_))
   obtain ⟨⟨ap13, fr24⟩, h20⟩ := q20
   replace ph4 := ph4.frame RTBind.lasts fr24 (ap13.o pa4)
   replace ph0 := ph0.frame OTMatch.lasts fr24 (ap13.r (i := 2) rfl) (ap13.r (i := 3) rfl)
   replace h18 := h18.frame RTBind.lasts fr24 (ap13.r (i := 0) rfl) (Dj.nil _)
   replace pp0 := fr24 _ _ ((ap13.r (i := 1) rfl) _ (by simp)) pp0
   obtain ⟨x14, hx14, h⟩ := bs h
   have kf15 := kf14.st fr24 (ap13.r (i := 1) rfl)
   refine WM.one 9 (by kernel_rfl) (me rfl (fun _ v Φx D w1 hq hw => Kn.of (kf15.st hq.1.2 (hq.1.1.r (i := 1) rfl)) (ai2 0 1 rfl rfl) hw) (e_appF RTBind.lasts RTBind.one RTBind.flat Sl_42 Ei_87 rfl rfl rfl rfl rfl (js := [1]) (Rr := [ob v20, [pb0], ob pv0, pD0]) rfl h18 ph4 hx14) rfl (fun v21 Φ_26 D22 q21 => ?_))
   obtain ⟨⟨ap14, fr25⟩, h21⟩ := q21
   replace ph0 := ph0.frame OTMatch.lasts fr25 (ap14.r (i := 2) rfl) (ap14.r (i := 3) rfl)
   replace h20 := h20.frame RI.lasts fr25 (ap14.r (i := 0) rfl) (Dj.nil _)
   replace pp0 := fr25 _ _ ((ap14.r (i := 1) rfl) _ (by simp)) pp0
   have kf16 := kf15.st fr25 (ap14.r (i := 1) rfl)
   refine mq 10 rfl (by kernel_rfl) (kn kf16 (ai2 0 1 rfl rfl)) (q_build (vs := [(1, v20), (2, v21)]) (C := #[.int .i64 0, v20, v21]) Pl_44 Zr_44 rfl (fill_cons (C' := [.int .i64 0, v20, .slice none 0 0]) rfl (one_cells h20.one) rfl rfl rfl (fill_cons (C' := [.int .i64 0, v20, v21]) rfl (one_cells h21.one) rfl rfl rfl (fill_nil)))) rfl ?_
   have rc11 : RC OTMatch 3 Φ_26 ([(ob v20 ++ []) ++ ((ob v21 ++ []))] : List (List Nat)) [.int .i64 0, v20, v21] ([(⟨0, x13, x14⟩ : TMatch)] : List TMatch) := RC.cons (c := [.int .i64 0, v20, v21]) (cells := []) ⟨v20, v21, rfl, rfl, h20, h21⟩ rfl (RC.nil _ _ _)
   refine WM.one 11 (by kernel_rfl) (me rfl (fun _ v Φx D w1 hq hw => Kn.of (kf16.se hq.1) (ai2 0 1 rfl rfl) hw) (e_lit (vs := [(0, .agg [.int .i64 0, v20, v21].toArray)]) (C := #[.int .i64 0, v20, v21]) OTMatch.lasts Sl_32 Zr_44 rfl rfl rfl rfl (fill_made MC_44_1 (fill_cons (C' := [.int .i64 0, v20, v21]) rfl rfl rfl rfl rfl (fill_nil))) rfl rc11 rfl (RC.kn OTMatch.knows rc11)) rfl (fun v22 Φ_27 D23 q22 => ?_))
   obtain ⟨fr26, h22⟩ := q22
   replace h22 : OSl OTMatch 44 3 Φ_27 ((ob v20 ++ []) ++ ((ob v21 ++ []))) v22 ([(⟨0, x13, x14⟩ : TMatch)] : List TMatch) := by simpa [List.append_assoc] using h22
   replace ph0 := ph0.frame OTMatch.lasts fr26 (Dj.empty _) (Dj.empty _)
   replace pp0 := fr26 _ _ (by simp) pp0
   refine WM.conv (S' := St w0 Φ_27 [(b_2, .cells #[pv2_0, .int .i64 p2.Next] 29 (0, 0)), (b_1, .cells #[.string p1.Name, .int .i64 p1.Sal, pv1_0, pv1_1, pv1_2] 40 (0, 0))] [((ob v20 ++ []) ++ ((ob v21 ++ []))), ob v22, [pb0], ob pv0, pD0]) (fun w1 hw => hw.merge (js := [2, 1]) rfl (SP.eq (by simp [List.append_assoc, ob_nil]))) ?_
   obtain ⟨x15, hx15, h⟩ := bs h
   have kf17 := kf16.se fr26
   refine WM.one 12 (by kernel_rfl) (me rfl (fun _ v Φx D w1 hq hw => Kn.of (kf17.st hq.1.2 (hq.1.1.r (i := 2) rfl)) (ai2 0 1 rfl rfl) hw) (e_appO OTMatch.lasts OTMatch.one Sl_32 Ei_44 rfl rfl rfl rfl rfl (js := [3]) (Rr := [((ob v20 ++ []) ++ ((ob v21 ++ []))), ob v22, [pb0], pD0]) rfl ph0 h22 (fun ap => (ap.r (i := 3) rfl)) (fun ap => (ap.r (i := 0) rfl)) hx15) rfl (fun v23 Φ_28 D24 q23 => ?_))
   obtain ⟨⟨ap15, fr27⟩, h23⟩ := q23
   replace pp0 := fr27 _ _ ((ap15.r (i := 2) rfl) _ (by simp)) pp0
   refine WM.conv (S' := St w0 Φ_28 [(b_2, .cells #[pv2_0, .int .i64 p2.Next] 29 (0, 0)), (b_1, .cells #[.string p1.Name, .int .i64 p1.Sal, pv1_0, pv1_1, pv1_2] 40 (0, 0))] [(pD0 ++ ((ob v20 ++ []) ++ ((ob v21 ++ [])))), ob v23, ob v22, [pb0]]) (fun w1 hw => hw.merge (js := [4, 1]) rfl (SP.eq (by simp))) ?_
   have kf18 := kf17.st fr27 (ap15.r (i := 2) rfl)
   refine mq 13 rfl (by kernel_rfl) (kn kf18 (ai2 0 1 rfl rfl)) (q_nilCheck rfl) rfl ?_
   refine WM.thw (js := [3]) (R := [(pD0 ++ ((ob v20 ++ []) ++ ((ob v21 ++ [])))), ob v23, ob v22]) rfl pp0 (fun Φ_29 ap16 fr28 => ?_)
   replace h23 := h23.frame OTMatch.lasts fr28 (ap16.r (i := 1) rfl) (ap16.r (i := 0) rfl)
   refine WM.one 14 (by kernel_rfl) (ms rfl (fun hc => by cases hc) (s_store (i := 0) (vs := [v23]) (C' := [v23]) (O' := [(pb0, .cells #[v23] 32 (0, 0)), (b_2, .cells #[pv2_0, .int .i64 p2.Next] 29 (0, 0)), (b_1, .cells #[.string p1.Name, .int .i64 p1.Sal, pv1_0, pv1_1, pv1_2] 40 (0, 0))]) Sz_32 rfl rfl rfl (one_cells h23.one) rfl rfl ⟨h23.one, trivial⟩ rfl rfl) rfl ?_)
   refine WM.nil (by kernel_rfl) ?_
   exact wto (K (Φ_29, x15, v23, (pD0 ++ ((ob v20 ++ []) ++ ((ob v21 ++ []))))) ⟨h, h23⟩) trivial (fun w1 hw => (hw.sel (js := [0, 0]) rfl).selO (js := [0]) rfl)
  refine WT.skip ?_
  refine WT.ret Tryz.func105 resOk.none (fun w1 hw => ?_)
  subst hb0
  cases h
  refine postG_of_St (js := [0, 0, 0]) hw rfl ⟨pv0, pD0, rfl, rfl, ph0, pp0⟩
 refine WT.skip <| sr <| la rfl <| en <| blk ?_
 refine loop_in (σ := Hp × (List TMatch) × Value × List Nat × Int) (fun s => [(0, .pointer (some ⟨pb0, 0, none⟩)), (3, pv3), (4, pv4), (6, .pointer (some ⟨b_1, 0, none⟩)), (7, .pointer (some ⟨b_2, 0, none⟩)), (10, .int .i64 s.2.2.2.2)]) (fun s => St w0 s.1 [(b_2, .cells #[pv2_0, .int .i64 p2.Next] 29 (0, 0)), (b_1, .cells #[.string p1.Name, .int .i64 p1.Sal, pv1_0, pv1_1, pv1_2] 40 (0, 0))] [[pb0], ob s.2.2.1, s.2.2.2.1]) (fun m s => m_s_l11Rows_l2 N p1 p2 p3 p4 (m_s_l11Rows N) m s.2.1 s.2.2.2.2 = some r ∧ (OSl OTMatch 44 3 s.1 s.2.2.2.1 s.2.2.1 s.2.1) ∧ (s.1 pb0 = some (.cells #[s.2.2.1] 32 (0, 0))) ∧ (RSl (RI .i64) 1 s.1 pG3 pv3 p3) ∧ (RSl RTBind 4 s.1 pG4 pv4 p4) ∧ (RSl RTPat 3 s.1 pG1_0 pv1_0 p1.Pats) ∧ (RSl RTCond 11 s.1 pG1_1 pv1_1 p1.Conds) ∧ (RSl RTAct 5 s.1 pG1_2 pv1_2 p1.Acts) ∧ (RSl RTItem 3 s.1 pG2_0 pv2_0 p2.Items)) (Φ, p0, pv0, pD0, 0) N ⟨h, ph0, pp0, ph3, ph4, ph1_0, ph1_1, ph1_2, ph2_0⟩ ⟨rfl, rfl, rfl, rfl, rfl, rfl, trivial⟩ (fun w1 hw => (hw.sel (js := [0, 0, 0]) rfl).selO (js := [0, 0]) rfl) (fun s hm => none_ne hm.1) (fun n2 ih2 s hm => ?_)
 obtain ⟨Φ_30, s2, u2, D25, s3⟩ := s
 obtain ⟨h, k3, k4, ph3, ph4, ph1_0, ph1_1, ph1_2, ph2_0⟩ := hm
 dsimp only at h k3 k4 ph3 ph4 ph1_0 ph1_1 ph1_2 ph2_0 ⊢
 unfold m_s_l11Rows_l2 at h
 refine sq <| sr <| la rfl <| lf Fld_29_0 rfl rfl rfl <| lo T1_27 0 rfl <| lq (q_lenR Sl_27 rfl rfl ph2_0) rfl <| la rfl <| en ?_
 refine cdh rfl h (fun c4 h => ?_) (fun c4 h => ?_)
 ·refine WT.skip <| sq <| blk <| sq <| WT.mix (Kn Φ_30 (pG1_0 ++ pG2_0) [(b_2, .cells #[pv2_0, .int .i64 p2.Next] 29 (0, 0)), (b_1, .cells #[.string p1.Name, .int .i64 p1.Sal, pv1_0, pv1_1, pv1_2] 40 (0, 0))]) (fun _ => true) mixed (fun _ h => h.drew) <| mq 0 rfl (by kernel_rfl) (kn Kf.id (ai2 0 1 rfl rfl)) (q_fieldAddr Fld_40_2 rfl) rfl <| mq 1 rfl (by kernel_rfl) (kn Kf.id (ai2 0 1 rfl rfl)) (q_load1 T1_36 rfl (fun w1 hw => hw.rgO (i := 1) rfl 2 1 [pv1_0] rfl)) rfl ?_
  refine ma 2 rfl (by kernel_rfl) (kn Kf.id (ai2 0 1 rfl rfl)) rfl <| mq 3 rfl (by kernel_rfl) (kn Kf.id (ai2 0 1 rfl rfl)) (q_lenR Sl_41 rfl rfl ph3) rfl ?_
  obtain ⟨x16, hx16, h⟩ := bs h
  obtain ⟨cs1, F1, -, g1, hb1, hs1, r1⟩ := ph1_0.el (idx_some hx16).2.2
  obtain ⟨v24, G1, rfl, hq1, h24⟩ := r1
  obtain rfl := hq1.symm
  refine mq 4 rfl (by kernel_rfl) (kn Kf.id (ai2 0 1 rfl rfl)) (q_indexAddr Sl_36 rfl rfl ph1_0 hx16) rfl <| mq 5 rfl (by kernel_rfl) (kn Kf.id (ai2 0 1 rfl rfl)) (q_loadN Tn_171 rfl (fun w1 hw => hw.rg (List.mem_append.2 (.inl hb1)) (g1.of_eq 0 3 rfl rfl : rg _ _ _ [.string x16.Kind, v24, .bool x16.Not])) rfl) rfl <| mq 6 rfl (by kernel_rfl) (kn Kf.id (ai2 0 1 rfl rfl)) (q_fieldAddr Fld_29_0 rfl) rfl <| mq 7 rfl (by kernel_rfl) (kn Kf.id (ai2 0 1 rfl rfl)) (q_load1 T1_27 rfl (fun w1 hw => hw.rgO (i := 0) rfl 0 1 [pv2_0] rfl)) rfl ?_
  refine ma 8 rfl (by kernel_rfl) (kn Kf.id (ai2 0 1 rfl rfl)) rfl ?_
  obtain ⟨x17, hx17, h⟩ := bs h
  obtain ⟨cs2, F2, -, g2, hb2, hs2, r2⟩ := ph2_0.el (idx_some hx17).2.2
  obtain ⟨v25, G2, rfl, hq2, h25⟩ := r2
  obtain rfl := hq2.symm
  refine mq 9 rfl (by kernel_rfl) (kn Kf.id (ai2 0 1 rfl rfl)) (q_indexAddr Sl_27 rfl rfl ph2_0 hx17) rfl <| mq 10 rfl (by kernel_rfl) (kn Kf.id (ai2 0 1 rfl rfl)) (q_fieldAddr Fld_125_1 rfl) rfl <| mq 11 rfl (by kernel_rfl) (kn Kf.id (ai2 0 1 rfl rfl)) (q_loadN Tn_123 rfl (fun w1 hw => hw.rg (List.mem_append.2 (.inr hb2)) (g2.of_eq 1 2 rfl rfl : rg _ _ _ [.string x17.F.Kind, v25])) rfl) rfl <| ma 12 rfl (by kernel_rfl) (kn Kf.id (ai2 0 1 rfl rfl)) rfl ?_
  obtain ⟨x18, hx18, h⟩ := bs h
  refine WM.one 13 (by kernel_rfl) (mc rfl (fun _ v Φx D w1 hq hw => Kn.of (Kf.id.st hq.2.1 (Dj.app (hq.1.o pa1_0) (hq.1.o pa2_0))) (ai2 0 1 rfl rfl) hw) (k_call (js := []) (R := [[pb0], ob u2, D25]) Fun_163 rfl rfl (fun w1 hw ap hl => m_s_MatchPat_ok hw.fro N x16 x17.F p4 h24 h25 ph4  hx18)) rfl (fun v26 Φ_31 F3 q24 => ?_))
  obtain ⟨ap17, fr29, v27, rfl, rfl, h26⟩ := q24
  replace ph3 := ph3.frame RI.lasts fr29 (ap17.o pa3)
  replace ph4 := ph4.frame RTBind.lasts fr29 (ap17.o pa4)
  replace ph1_0 := ph1_0.frame RTPat.lasts fr29 (ap17.o pa1_0)
  replace ph1_1 := ph1_1.frame RTCond.lasts fr29 (ap17.o pa1_1)
  replace ph1_2 := ph1_2.frame RTAct.lasts fr29 (ap17.o pa1_2)
  replace ph2_0 := ph2_0.frame RTItem.lasts fr29 (ap17.o pa2_0)
  replace k3 := k3.frame OTMatch.lasts fr29 (ap17.r (i := 1) rfl) (ap17.r (i := 2) rfl)
  replace k4 := fr29 _ _ ((ap17.r (i := 0) rfl) _ (by simp)) k4
  have kf19 := (Kf.id (F := (pG1_0 ++ pG2_0)) : Kf Φ_30 _ _).st fr29 (Dj.app (ap17.o pa1_0) (ap17.o pa2_0))
  refine ma 14 rfl (by kernel_rfl) (kn kf19 (ai2 0 1 rfl rfl)) rfl <| mq 15 rfl (by kernel_rfl) (kn kf19 (ai2 0 1 rfl rfl)) (q_extract rfl rfl) rfl <| mq 16 rfl (by kernel_rfl) (kn kf19 (ai2 0 1 rfl rfl)) (q_extract rfl rfl) rfl <| ma 17 rfl (by kernel_rfl) (kn kf19 (ai2 0 1 rfl rfl)) rfl <| ma 18 rfl (by kernel_rfl) (kn kf19 (ai2 0 1 rfl rfl)) rfl <| WM.nil (by kernel_rfl) <| sr <| la rfl <| en ?_
  refine cdh rfl h (fun c5 h => ?_) (fun c5 h => ?_)
  ·refine cut (σ := Hp × (List TMatch) × Value × List Nat) (fun s => [(0, .pointer (some ⟨pb0, 0, none⟩)), (3, pv3), (4, pv4), (6, .pointer (some ⟨b_1, 0, none⟩)), (7, .pointer (some ⟨b_2, 0, none⟩)), (10, .int .i64 s3)]) (fun s => St w0 s.1 [(b_2, .cells #[pv2_0, .int .i64 p2.Next] 29 (0, 0)), (b_1, .cells #[.string p1.Name, .int .i64 p1.Sal, pv1_0, pv1_1, pv1_2] 40 (0, 0))] [[pb0], ob s.2.2.1, s.2.2.2]) (fun s => m_s_l11Rows_j3 N s3 (m_s_l11Rows_l2 N p1 p2 p3 p4 (m_s_l11Rows N) n2) s.2.1 = some r ∧ (OSl OTMatch 44 3 s.1 s.2.2.2 s.2.2.1 s.2.1) ∧ (s.1 pb0 = some (.cells #[s.2.2.1] 32 (0, 0))) ∧ (RSl (RI .i64) 1 s.1 pG3 pv3 p3) ∧ (RSl RTBind 4 s.1 pG4 pv4 p4) ∧ (RSl RTPat 3 s.1 pG1_0 pv1_0 p1.Pats) ∧ (RSl RTCond 11 s.1 pG1_1 pv1_1 p1.Conds) ∧ (RSl RTAct 5 s.1 pG1_2 pv1_2 p1.Acts) ∧ (RSl RTItem 3 s.1 pG2_0 pv2_0 p2.Items)) (fun s hm => ?_) (fun K => ?_)
   ·clear h
    obtain ⟨Φ_37, s4, u3, D31⟩ := s
    obtain ⟨h, k5, k6, ph3, ph4, ph1_0, ph1_1, ph1_2, ph2_0⟩ := hm
    dsimp only at h k5 k6 ph3 ph4 ph1_0 ph1_1 ph1_2 ph2_0 ⊢
    unfold m_s_l11Rows_j3 at h
    refine ib <| rgn <| la rfl <| la rfl <| la rfl <| en ?_
    exact lback (ih2 (Φ_37, s4, u3, D31, IntKind.i64.wrap (s3 + 1)) ⟨h, k5, k6, ph3, ph4, ph1_0, ph1_1, ph1_2, ph2_0⟩) ⟨rfl, rfl, rfl, rfl, rfl, rfl, trivial⟩ (fun w1 hw => (hw.sel (js := [0, 0, 0]) rfl).selO (js := [0, 0]) rfl)
   refine WT.mix (Kn Φ_31 pG2_0 [(b_2, .cells #[pv2_0, .int .i64 p2.Next] 29 (0, 0)), (b_1, .cells #[.string p1.Name, .int .i64 p1.Sal, pv1_0, pv1_1, pv1_2] 40 (0, 0))]) (fun i => match i with | 15 => false | _ => true) mixed (fun _ h => h.drew) <| ma 0 rfl (by kernel_rfl) (kn Kf.id (ai2 0 1 rfl rfl)) rfl <| mq 1 rfl (by kernel_rfl) (kn Kf.id (ai2 0 1 rfl rfl)) (q_loadN Tn_40 rfl (fun w1 hw => hw.rgO (i := 1) rfl 0 5 [.string p1.Name, .int .i64 p1.Sal, pv1_0, pv1_1, pv1_2] rfl) rfl) rfl ?_
   refine mq 2 rfl (by kernel_rfl) (kn Kf.id (ai2 0 1 rfl rfl)) (q_loadN Tn_29 rfl (fun w1 hw => hw.rgO (i := 0) rfl 0 2 [pv2_0, .int .i64 p2.Next] rfl) rfl) rfl <| ma 14 rfl (by kernel_rfl) (kn Kf.id (ai2 0 1 rfl rfl)) rfl <| mqT 4 [5, 13, 15] rfl (by kernel_rfl) (kn Kf.id (ai2 0 1 rfl rfl)) (q_move rfl) rfl <| mqT 6 [7, 9, 10, 11, 12, 13, 15] rfl (by kernel_rfl) (kn Kf.id (ai2 0 1 rfl rfl)) (q_fieldAddr Fld_29_0 rfl) rfl ?_
   refine mqT 7 [9, 10, 11, 12, 13, 15] rfl (by kernel_rfl) (kn Kf.id (ai2 0 1 rfl rfl)) (q_load1 T1_27 rfl (fun w1 hw => hw.rgO (i := 0) rfl 0 1 [pv2_0] rfl)) rfl <| mqT 8 [9, 10, 11, 12, 13, 15] rfl (by kernel_rfl) (kn Kf.id (ai2 0 1 rfl rfl)) (q_move rfl) rfl ?_
   obtain ⟨x23, hx23, h⟩ := bs h
   obtain ⟨cs4, F6, -, g4, hb4, hs4, r4⟩ := ph2_0.el (idx_some hx23).2.2
   obtain ⟨v35, G4, rfl, hq4, h34⟩ := r4
   obtain rfl := hq4.symm
   refine mqT 9 [10, 11, 12, 13, 15] rfl (by kernel_rfl) (kn Kf.id (ai2 0 1 rfl rfl)) (q_indexAddr Sl_27 rfl rfl ph2_0 hx23) rfl <| mqT 10 [11, 12, 13, 15] rfl (by kernel_rfl) (kn Kf.id (ai2 0 1 rfl rfl)) (q_fieldAddr Fld_125_0 rfl) rfl <| mqT 11 [12, 13, 15] rfl (by kernel_rfl) (kn Kf.id (ai2 0 1 rfl rfl)) (q_load1 T1_3 rfl (fun w1 hw => hw.rg hb4 (g4.of_eq 0 1 rfl rfl : rg _ _ _ [.int .i64 x23.Id]))) rfl ?_
   refine WM.two 3 12 (by kernel_rfl) ?_ ?_
   ·refine me rfl (fun _ v Φx D w1 hq hw => Kn.of (Kf.id.se hq.1) (ai2 0 1 rfl rfl) hw) (e_lit0 (R := RI .i64) RI.lasts Sl_41 Zr_3 rfl rfl) rfl (fun v36 Φ_38 D32 q30 => ?_)
    obtain ⟨fr35, h35⟩ := q30
    replace ph3 := ph3.frame RI.lasts fr35 (Dj.empty _)
    replace ph4 := ph4.frame RTBind.lasts fr35 (Dj.empty _)
    replace ph1_0 := ph1_0.frame RTPat.lasts fr35 (Dj.empty _)
    replace ph1_1 := ph1_1.frame RTCond.lasts fr35 (Dj.empty _)
    replace ph1_2 := ph1_2.frame RTAct.lasts fr35 (Dj.empty _)
    replace ph2_0 := ph2_0.frame RTItem.lasts fr35 (Dj.empty _)
    replace k3 := k3.frame OTMatch.lasts fr35 (Dj.empty _) (Dj.empty _)
    replace h26 := h26.frame RTBind.lasts fr35 (Dj.empty _) (Dj.empty _)
    replace k4 := fr35 _ _ (by simp) k4
    refine WM.two 5 12 (by kernel_rfl) ?_ ?_
    ·obtain ⟨x24, hx24, h⟩ := bs h
     have kf20 := (Kf.id (F := pG2_0) : Kf Φ_31 _ _).se fr35
     refine me rfl (fun _ v Φx D w1 hq hw => Kn.of (kf20.st hq.1.2 (hq.1.1.o pa2_0)) (ai2 0 1 rfl rfl) hw) (e_appF RI.lasts RI.one RI.flat Sl_41 Ei_3 rfl rfl rfl rfl rfl (js := [0]) (Rr := [ob v27, [pb0], ob u2, D25]) rfl h35 ph3 hx24) rfl (fun v37 Φ_39 D33 q31 => ?_)
     obtain ⟨⟨ap21, fr36⟩, h36⟩ := q31
     replace ph3 := ph3.frame RI.lasts fr36 (ap21.o pa3)
     replace ph4 := ph4.frame RTBind.lasts fr36 (ap21.o pa4)
     replace ph1_0 := ph1_0.frame RTPat.lasts fr36 (ap21.o pa1_0)
     replace ph1_1 := ph1_1.frame RTCond.lasts fr36 (ap21.o pa1_1)
     replace ph1_2 := ph1_2.frame RTAct.lasts fr36 (ap21.o pa1_2)
     replace ph2_0 := ph2_0.frame RTItem.lasts fr36 (ap21.o pa2_0)
     replace k3 := k3.frame OTMatch.lasts fr36 (ap21.r (i := 2) rfl) (ap21.r (i := 3) rfl)
     replace h26 := h26.frame RTBind.lasts fr36 (ap21.r (i := 0) rfl) (Dj.nil _)
     replace k4 := fr36 _ _ ((ap21.r (i := 1) rfl) _ (by simp)) k4
     have rc15 : RC (RI .i64) 1 Φ_39 ([[]] : List (List Nat)) [.int .i64 x23.Id] ([x23.Id] : List Int) := RC.cons (c := [.int .i64 x23.Id]) (cells := []) ⟨rfl, rfl⟩ rfl (RC.nil _ _ _)
     have kf21 := kf20.st fr36 (ap21.o pa2_0)
     refine WM.one 12 (by kernel_rfl) (me rfl (fun _ v Φx D w1 hq hw => Kn.of (kf21.se hq.1) (ai2 0 1 rfl rfl) hw) (e_lit (vs := [(0, .int .i64 x23.Id)]) (C := #[.int .i64 x23.Id]) RI.lasts Sl_41 Zr_3 rfl rfl rfl rfl (fill_made MC_3_1 (fill_cons (C' := [.int .i64 x23.Id]) rfl rfl rfl rfl rfl (fill_nil))) rfl rc15 rfl (by simpa using Kw.nil)) rfl (fun v38 Φ_40 D34 q32 => ?_))
     obtain ⟨fr37, h37⟩ := q32
     replace h37 : OSl (RI .i64) 3 1 Φ_40 [] v38 ([x23.Id] : List Int) := by simpa using h37
     replace ph3 := ph3.frame RI.lasts fr37 (Dj.empty _)
     replace ph4 := ph4.frame RTBind.lasts fr37 (Dj.empty _)
     replace ph1_0 := ph1_0.frame RTPat.lasts fr37 (Dj.empty _)
     replace ph1_1 := ph1_1.frame RTCond.lasts fr37 (Dj.empty _)
     replace ph1_2 := ph1_2.frame RTAct.lasts fr37 (Dj.empty _)
     replace ph2_0 := ph2_0.frame RTItem.lasts fr37 (Dj.empty _)
     replace k3 := k3.frame OTMatch.lasts fr37 (Dj.empty _) (Dj.empty _)
     replace h26 := h26.frame RTBind.lasts fr37 (Dj.empty _) (Dj.empty _)
     replace h36 := h36.frame RI.lasts fr37 (Dj.empty _) (Dj.empty _)
     replace k4 := fr37 _ _ (by simp) k4
     obtain ⟨x25, hx25, h⟩ := bs h
     have kf22 := kf21.se fr37
     refine WM.one 13 (by kernel_rfl) (me rfl (fun _ v Φx D w1 hq hw => Kn.of (kf22.st hq.1.2 (hq.1.1.o pa2_0)) (ai2 0 1 rfl rfl) hw) (e_appF RI.lasts RI.one RI.flat Sl_41 Ei_3 rfl rfl rfl rfl rfl (js := [1]) (Rr := [ob v38, ob v27, [pb0], ob u2, D25]) rfl h36 h37.rsl hx25) rfl (fun v39 Φ_41 D35 q33 => ?_))
     obtain ⟨⟨ap22, fr38⟩, h38⟩ := q33
     replace ph3 := ph3.frame RI.lasts fr38 (ap22.o pa3)
     replace ph4 := ph4.frame RTBind.lasts fr38 (ap22.o pa4)
     replace ph1_0 := ph1_0.frame RTPat.lasts fr38 (ap22.o pa1_0)
     replace ph1_1 := ph1_1.frame RTCond.lasts fr38 (ap22.o pa1_1)
     replace ph1_2 := ph1_2.frame RTAct.lasts fr38 (ap22.o pa1_2)
     replace ph2_0 := ph2_0.frame RTItem.lasts fr38 (ap22.o pa2_0)
     replace k3 := k3.frame OTMatch.lasts fr38 (ap22.r (i := 3) rfl) (ap22.r (i := 4) rfl)
     replace h26 := h26.frame RTBind.lasts fr38 (ap22.r (i := 1) rfl) (Dj.nil _)
     replace k4 := fr38 _ _ ((ap22.r (i := 2) rfl) _ (by simp)) k4
     obtain ⟨x26, hx26, h⟩ := bs h
     refine WM.one 15 (by kernel_rfl) (mc rfl (fun hc => by cases hc) (k_call (js := [3, 3, 3]) (R := [ob v39, ob v38, ob v27]) Fun_105 rfl rfl (fun w1 hw ap hl => ih hw.fro s2 p1 p2 x25 x18.1 k3 k4 ph1_0 ph1_1 ph1_2 ph2_0 h38.rsl h26.rsl (ap.o pa1_0) (ap.o pa1_1) (ap.o pa1_2) (ap.o pa2_0) (Dj.app (ap.r (i := 0) rfl) (Dj.nil _)) (Dj.app (ap.r (i := 2) rfl) (Dj.nil _)) ap.nd hl hx26)) rfl (fun v40 Φ_42 F7 q34 => ?_))
     obtain ⟨ap23, fr39, v41, D36, rfl, rfl, h39, h40⟩ := q34
     replace ph3 := ph3.frame RI.lasts fr39 (ap23.o pa3)
     replace ph4 := ph4.frame RTBind.lasts fr39 (ap23.o pa4)
     replace ph1_0 := ph1_0.frame RTPat.lasts fr39 (ap23.o pa1_0)
     replace ph1_1 := ph1_1.frame RTCond.lasts fr39 (ap23.o pa1_1)
     replace ph1_2 := ph1_2.frame RTAct.lasts fr39 (ap23.o pa1_2)
     replace ph2_0 := ph2_0.frame RTItem.lasts fr39 (ap23.o pa2_0)
     refine WM.nil (by kernel_rfl) ?_
     exact wto (K (Φ_42, x26, v41, D36) ⟨h, h39, h40, ph3, ph4, ph1_0, ph1_1, ph1_2, ph2_0⟩) ⟨rfl, rfl, rfl, rfl, rfl, rfl, trivial⟩ (fun w1 hw => (hw.sel (js := [0, 0, 0]) rfl).selO (js := [0, 0]) rfl)
    have rc16 : RC (RI .i64) 1 Φ_38 ([[]] : List (List Nat)) [.int .i64 x23.Id] ([x23.Id] : List Int) := RC.cons (c := [.int .i64 x23.Id]) (cells := []) ⟨rfl, rfl⟩ rfl (RC.nil _ _ _)
    have kf23 := (Kf.id (F := pG2_0) : Kf Φ_31 _ _).se fr35
    refine me rfl (fun _ v Φx D w1 hq hw => Kn.of (kf23.se hq.1) (ai2 0 1 rfl rfl) hw) (e_lit (vs := [(0, .int .i64 x23.Id)]) (C := #[.int .i64 x23.Id]) RI.lasts Sl_41 Zr_3 rfl rfl rfl rfl (fill_made MC_3_1 (fill_cons (C' := [.int .i64 x23.Id]) rfl rfl rfl rfl rfl (fill_nil))) rfl rc16 rfl (by simpa using Kw.nil)) rfl (fun v42 Φ_43 D37 q35 => ?_)
    obtain ⟨fr40, h41⟩ := q35
    replace h41 : OSl (RI .i64) 3 1 Φ_43 [] v42 ([x23.Id] : List Int) := by simpa using h41
    replace ph3 := ph3.frame RI.lasts fr40 (Dj.empty _)
    replace ph4 := ph4.frame RTBind.lasts fr40 (Dj.empty _)
    replace ph1_0 := ph1_0.frame RTPat.lasts fr40 (Dj.empty _)
    replace ph1_1 := ph1_1.frame RTCond.lasts fr40 (Dj.empty _)
    replace ph1_2 := ph1_2.frame RTAct.lasts fr40 (Dj.empty _)
    replace ph2_0 := ph2_0.frame RTItem.lasts fr40 (Dj.empty _)
    replace k3 := k3.frame OTMatch.lasts fr40 (Dj.empty _) (Dj.empty _)
    replace h26 := h26.frame RTBind.lasts fr40 (Dj.empty _) (Dj.empty _)
    replace h35 := h35.frame RI.lasts fr40 (Dj.empty _) (Dj.empty _)
    replace k4 := fr40 _ _ (by simp) k4
    obtain ⟨x27, hx27, h⟩ := bs h
    have kf24 := kf23.se fr40
    refine WM.one 5 (by kernel_rfl) (me rfl (fun _ v Φx D w1 hq hw => Kn.of (kf24.st hq.1.2 (hq.1.1.o pa2_0)) (ai2 0 1 rfl rfl) hw) (e_appF RI.lasts RI.one RI.flat Sl_41 Ei_3 rfl rfl rfl rfl rfl (js := [1]) (Rr := [ob v42, ob v27, [pb0], ob u2, D25]) rfl h35 ph3 hx27) rfl (fun v43 Φ_44 D38 q36 => ?_))
    obtain ⟨⟨ap24, fr41⟩, h42⟩ := q36
    replace ph3 := ph3.frame RI.lasts fr41 (ap24.o pa3)
    replace ph4 := ph4.frame RTBind.lasts fr41 (ap24.o pa4)
    replace ph1_0 := ph1_0.frame RTPat.lasts fr41 (ap24.o pa1_0)
    replace ph1_1 := ph1_1.frame RTCond.lasts fr41 (ap24.o pa1_1)
    replace ph1_2 := ph1_2.frame RTAct.lasts fr41 (ap24.o pa1_2)
    replace ph2_0 := ph2_0.frame RTItem.lasts fr41 (ap24.o pa2_0)
    replace k3 := k3.frame OTMatch.lasts fr41 (ap24.r (i := 3) rfl) (ap24.r (i := 4) rfl)
    replace h26 := h26.frame RTBind.lasts fr41 (ap24.r (i := 1) rfl) (Dj.nil _)
    replace h41 := h41.frame RI.lasts fr41 (ap24.r (i := 0) rfl) (Dj.nil _)
    replace k4 := fr41 _ _ ((ap24.r (i := 2) rfl) _ (by simp)) k4
    obtain ⟨x28, hx28, h⟩ := bs h
    have kf25 := kf24.st fr41 (ap24.o pa2_0)
    refine WM.one 13 (by kernel_rfl) (me rfl (fun _ v Φx D w1 hq hw => Kn.of (kf25.st hq.1.2 (hq.1.1.o pa2_0)) (ai2 0 1 rfl rfl) hw) (e_appF RI.lasts RI.one RI.flat Sl_41 Ei_3 rfl rfl rfl rfl rfl (js := [0]) (Rr := [ob v42, ob v27, [pb0], ob u2, D25]) rfl h42 h41.rsl hx28) rfl (fun v44 Φ_45 D39 q37 => ?_))
    obtain ⟨⟨ap25, fr42⟩, h43⟩ := q37
    replace ph3 := ph3.frame RI.lasts fr42 (ap25.o pa3)
    replace ph4 := ph4.frame RTBind.lasts fr42 (ap25.o pa4)
    replace ph1_0 := ph1_0.frame RTPat.lasts fr42 (ap25.o pa1_0)
    replace ph1_1 := ph1_1.frame RTCond.lasts fr42 (ap25.o pa1_1)
    replace ph1_2 := ph1_2.frame RTAct.lasts fr42 (ap25.o pa1_2)
    replace ph2_0 := ph2_0.frame RTItem.lasts fr42 (ap25.o pa2_0)
    replace k3 := k3.frame OTMatch.lasts fr42 (ap25.r (i := 3) rfl) (ap25.r (i := 4) rfl)
    replace h26 := h26.frame RTBind.lasts fr42 (ap25.r (i := 1) rfl) (Dj.nil _)
    replace k4 := fr42 _ _ ((ap25.r (i := 2) rfl) _ (by simp)) k4
    obtain ⟨x29, hx29, h⟩ := bs h
    refine WM.one 15 (by kernel_rfl) (mc rfl (fun hc => by cases hc) (k_call (js := [3, 3, 3]) (R := [ob v44, ob v42, ob v27]) Fun_105 rfl rfl (fun w1 hw ap hl => ih hw.fro s2 p1 p2 x28 x18.1 k3 k4 ph1_0 ph1_1 ph1_2 ph2_0 h43.rsl h26.rsl (ap.o pa1_0) (ap.o pa1_1) (ap.o pa1_2) (ap.o pa2_0) (Dj.app (ap.r (i := 0) rfl) (Dj.nil _)) (Dj.app (ap.r (i := 2) rfl) (Dj.nil _)) ap.nd hl hx29)) rfl (fun v45 Φ_46 F8 q38 => ?_))
    obtain ⟨ap26, fr43, v46, D40, rfl, rfl, h44, h45⟩ := q38
    replace ph3 := ph3.frame RI.lasts fr43 (ap26.o pa3)
    replace ph4 := ph4.frame RTBind.lasts fr43 (ap26.o pa4)
    replace ph1_0 := ph1_0.frame RTPat.lasts fr43 (ap26.o pa1_0)
    replace ph1_1 := ph1_1.frame RTCond.lasts fr43 (ap26.o pa1_1)
    replace ph1_2 := ph1_2.frame RTAct.lasts fr43 (ap26.o pa1_2)
    replace ph2_0 := ph2_0.frame RTItem.lasts fr43 (ap26.o pa2_0)
    refine WM.nil (by kernel_rfl) ?_
    exact wto (K (Φ_46, x29, v46, D40) ⟨h, h44, h45, ph3, ph4, ph1_0, ph1_1, ph1_2, ph2_0⟩) ⟨rfl, rfl, rfl, rfl, rfl, rfl, trivial⟩ (fun w1 hw => (hw.sel (js := [0, 0, 0]) rfl).selO (js := [0, 0]) rfl)
   have rc17 : RC (RI .i64) 1 Φ_31 ([[]] : List (List Nat)) [.int .i64 x23.Id] ([x23.Id] : List Int) := RC.cons (c := [.int .i64 x23.Id]) (cells := []) ⟨rfl, rfl⟩ rfl (RC.nil _ _ _)
   refine me rfl (fun _ v Φx D w1 hq hw => Kn.of (Kf.id.se hq.1) (ai2 0 1 rfl rfl) hw) (e_lit (vs := [(0, .int .i64 x23.Id)]) (C := #[.int .i64 x23.Id]) RI.lasts Sl_41 Zr_3 rfl rfl rfl rfl (fill_made MC_3_1 (fill_cons (C' := [.int .i64 x23.Id]) rfl rfl rfl rfl rfl (fill_nil))) rfl rc17 rfl (by simpa using Kw.nil)) rfl (fun v47 Φ_47 D41 q39 => ?_)
   obtain ⟨fr44, h46⟩ := q39
   replace h46 : OSl (RI .i64) 3 1 Φ_47 [] v47 ([x23.Id] : List Int) := by simpa using h46
   replace ph3 := ph3.frame RI.lasts fr44 (Dj.empty _)
   replace ph4 := ph4.frame RTBind.lasts fr44 (Dj.empty _)
   replace ph1_0 := ph1_0.frame RTPat.lasts fr44 (Dj.empty _)
   replace ph1_1 := ph1_1.frame RTCond.lasts fr44 (Dj.empty _)
   replace ph1_2 := ph1_2.frame RTAct.lasts fr44 (Dj.empty _)
   replace ph2_0 := ph2_0.frame RTItem.lasts fr44 (Dj.empty _)
   replace k3 := k3.frame OTMatch.lasts fr44 (Dj.empty _) (Dj.empty _)
   replace h26 := h26.frame RTBind.lasts fr44 (Dj.empty _) (Dj.empty _)
   replace k4 := fr44 _ _ (by simp) k4
   have kf26 := (Kf.id (F := pG2_0) : Kf Φ_31 _ _).se fr44
   refine WM.one 3 (by kernel_rfl) (me rfl (fun _ v Φx D w1 hq hw => Kn.of (kf26.se hq.1) (ai2 0 1 rfl rfl) hw) (e_lit0 (R := RI .i64) RI.lasts Sl_41 Zr_3 rfl rfl) rfl (fun v48 Φ_48 D42 q40 => ?_))
   obtain ⟨fr45, h47⟩ := q40
   replace ph3 := ph3.frame RI.lasts fr45 (Dj.empty _)
   replace ph4 := ph4.frame RTBind.lasts fr45 (Dj.empty _)
   replace ph1_0 := ph1_0.frame RTPat.lasts fr45 (Dj.empty _)
   replace ph1_1 := ph1_1.frame RTCond.lasts fr45 (Dj.empty _)
   replace ph1_2 := ph1_2.frame RTAct.lasts fr45 (Dj.empty _)
   replace ph2_0 := ph2_0.frame RTItem.lasts fr45 (Dj.empty _)
   replace k3 := k3.frame OTMatch.lasts fr45 (Dj.empty _) (Dj.empty _)
   replace h26 := h26.frame RTBind.lasts fr45 (Dj.empty _) (Dj.empty _)
   replace h46 := h46.frame RI.lasts fr45 (Dj.empty _) (Dj.empty _)
   replace k4 := fr45 _ _ (by simp) k4
   obtain ⟨x30, hx30, h⟩ := bs h
   have kf27 := kf26.se fr45
   refine WM.one 5 (by kernel_rfl) (me rfl (fun _ v Φx D w1 hq hw => Kn.of (kf27.st hq.1.2 (hq.1.1.o pa2_0)) (ai2 0 1 rfl rfl) hw) (e_appF RI.lasts RI.one RI.flat Sl_41 Ei_3 rfl rfl rfl rfl rfl (js := [0]) (Rr := [ob v47, ob v27, [pb0], ob u2, D25]) rfl h47 ph3 hx30) rfl (fun v49 Φ_49 D43 q41 => ?_))
   obtain ⟨⟨ap27, fr46⟩, h48⟩ := q41
   replace ph3 := ph3.frame RI.lasts fr46 (ap27.o pa3)
   replace ph4 := ph4.frame RTBind.lasts fr46 (ap27.o pa4)
   replace ph1_0 := ph1_0.frame RTPat.lasts fr46 (ap27.o pa1_0)
   replace ph1_1 := ph1_1.frame RTCond.lasts fr46 (ap27.o pa1_1)
   replace ph1_2 := ph1_2.frame RTAct.lasts fr46 (ap27.o pa1_2)
   replace ph2_0 := ph2_0.frame RTItem.lasts fr46 (ap27.o pa2_0)
   replace k3 := k3.frame OTMatch.lasts fr46 (ap27.r (i := 3) rfl) (ap27.r (i := 4) rfl)
   replace h26 := h26.frame RTBind.lasts fr46 (ap27.r (i := 1) rfl) (Dj.nil _)
   replace h46 := h46.frame RI.lasts fr46 (ap27.r (i := 0) rfl) (Dj.nil _)
   replace k4 := fr46 _ _ ((ap27.r (i := 2) rfl) _ (by simp)) k4
   obtain ⟨x31, hx31, h⟩ := bs h
   have kf28 := kf27.st fr46 (ap27.o pa2_0)
   refine WM.one 13 (by kernel_rfl) (me rfl (fun _ v Φx D w1 hq hw => Kn.of (kf28.st hq.1.2 (hq.1.1.o pa2_0)) (ai2 0 1 rfl rfl) hw) (e_appF RI.lasts RI.one RI.flat Sl_41 Ei_3 rfl rfl rfl rfl rfl (js := [0]) (Rr := [ob v47, ob v27, [pb0], ob u2, D25]) rfl h48 h46.rsl hx31) rfl (fun v50 Φ_50 D44 q42 => ?_))
   obtain ⟨⟨ap28, fr47⟩, h49⟩ := q42
   replace ph3 := ph3.frame RI.lasts fr47 (ap28.o pa3)
   replace ph4 := ph4.frame RTBind.lasts fr47 (ap28.o pa4)
   replace ph1_0 := ph1_0.frame RTPat.lasts fr47 (ap28.o pa1_0)
   replace ph1_1 := ph1_1.frame RTCond.lasts fr47 (ap28.o pa1_1)
   replace ph1_2 := ph1_2.frame RTAct.lasts fr47 (ap28.o pa1_2)
   replace ph2_0 := ph2_0.frame RTItem.lasts fr47 (ap28.o pa2_0)
   replace k3 := k3.frame OTMatch.lasts fr47 (ap28.r (i := 3) rfl) (ap28.r (i := 4) rfl)
   replace h26 := h26.frame RTBind.lasts fr47 (ap28.r (i := 1) rfl) (Dj.nil _)
   replace k4 := fr47 _ _ ((ap28.r (i := 2) rfl) _ (by simp)) k4
   obtain ⟨x32, hx32, h⟩ := bs h
   refine WM.one 15 (by kernel_rfl) (mc rfl (fun hc => by cases hc) (k_call (js := [3, 3, 3]) (R := [ob v50, ob v47, ob v27]) Fun_105 rfl rfl (fun w1 hw ap hl => ih hw.fro s2 p1 p2 x31 x18.1 k3 k4 ph1_0 ph1_1 ph1_2 ph2_0 h49.rsl h26.rsl (ap.o pa1_0) (ap.o pa1_1) (ap.o pa1_2) (ap.o pa2_0) (Dj.app (ap.r (i := 0) rfl) (Dj.nil _)) (Dj.app (ap.r (i := 2) rfl) (Dj.nil _)) ap.nd hl hx32)) rfl (fun v51 Φ_51 F9 q43 => ?_))
   obtain ⟨ap29, fr48, v52, D45, rfl, rfl, h50, h51⟩ := q43
   replace ph3 := ph3.frame RI.lasts fr48 (ap29.o pa3)
   replace ph4 := ph4.frame RTBind.lasts fr48 (ap29.o pa4)
   replace ph1_0 := ph1_0.frame RTPat.lasts fr48 (ap29.o pa1_0)
   replace ph1_1 := ph1_1.frame RTCond.lasts fr48 (ap29.o pa1_1)
   replace ph1_2 := ph1_2.frame RTAct.lasts fr48 (ap29.o pa1_2)
   replace ph2_0 := ph2_0.frame RTItem.lasts fr48 (ap29.o pa2_0)
   refine WM.nil (by kernel_rfl) ?_
   exact wto (K (Φ_51, x32, v52, D45) ⟨h, h50, h51, ph3, ph4, ph1_0, ph1_1, ph1_2, ph2_0⟩) ⟨rfl, rfl, rfl, rfl, rfl, rfl, trivial⟩ (fun w1 hw => (hw.sel (js := [0, 0, 0]) rfl).selO (js := [0, 0]) rfl)
  refine WT.skip <| ib <| rgn <| la rfl <| la rfl <| la rfl <| en ?_
  exact lback (ih2 (Φ_31, s2, u2, D25, IntKind.i64.wrap (s3 + 1)) ⟨h, k3, k4, ph3, ph4, ph1_0, ph1_1, ph1_2, ph2_0⟩) ⟨rfl, rfl, rfl, rfl, rfl, rfl, trivial⟩ (fun w1 hw => (hw.sel (js := [1, 1, 1]) rfl).selO (js := [0, 0]) rfl)
 refine xt rfl ?_
 refine WT.fin Tryz.func105 resOk.none (fun w1 hw => ?_)
 subst hb0
 cases h
 refine postG_of_St (js := [0, 0, 0]) hw rfl ⟨u2, D25, rfl, rfl, k3, k4⟩
theorem m_s_l11Of_ok {Φ : Hp} {w : World} (hΦ : In Φ w) (N : Nat) (p0 : TRule) (p1 : TStore) {pv0_0 pv0_1 pv0_2 pv1_0 : Value} {pG0_0 pG0_1 pG0_2 pG1_0 : List Nat} (ph0_0 : RSl RTPat 3 Φ pG0_0 pv0_0 p0.Pats) (ph0_1 : RSl RTCond 11 Φ pG0_1 pv0_1 p0.Conds) (ph0_2 : RSl RTAct 5 Φ pG0_2 pv0_2 p0.Acts) (ph1_0 : RSl RTItem 3 Φ pG1_0 pv1_0 p1.Items) {r : (List TMatch)} (h : m_s_l11Of N p0 p1 = some r) :
  Calls Tryz.prog 50 [.agg [.string p0.Name, .int .i64 p0.Sal, pv0_0, pv0_1, pv0_2].toArray, .agg [pv1_0, .int .i64 p1.Next].toArray].toArray w (PostG Φ w [] (fun Φ' Fs v => ∃ (sr_0_0 : Value) (Dr_0_0 : List Nat), v = sr_0_0 ∧ Fs = [ob sr_0_0, Dr_0_0] ∧ OSl OTMatch 44 3 Φ' Dr_0_0 sr_0_0 r)) := by
 refine enter Tryz.func50 rfl Tryz.ntmps50 rfl (St.start0 hΦ) ?_
 have pa0_0 := Old.mk hΦ ph0_0.kn (Dj.empty _)
 have pa0_1 := Old.mk hΦ ph0_1.kn (Dj.empty _)
 have pa0_2 := Old.mk hΦ ph0_2.kn (Dj.empty _)
 have pa1_0 := Old.mk hΦ ph1_0.kn (Dj.empty _)
 revert pa0_0 pa0_1 pa0_2 pa1_0
 generalize hb0 : (⟨w, [], Φ⟩ : Base) = w0
 intro pa0_0 pa0_1 pa0_2 pa1_0
 unfold m_s_l11Of at h
 refine sr ?_
 refine ln (nb rfl) rfl (fun b_1 => ?_)
 refine ln (nb rfl) rfl (fun b_2 => ?_)
 refine la rfl <| en <| sr ?_
 have rc1 : RC OTMatch 3 Φ ([] : List (List Nat)) [] ([] : List TMatch) := RC.nil _ _ _
 refine le' (e_lit (vs := []) (C := #[]) OTMatch.lasts Sl_32 Zr_44 rfl rfl rfl rfl (fill_made MC_44_0 (fill_nil)) rfl rc1 rfl (by simpa using Kw.nil)) rfl (fun v1 Φ_1 D1 q1 => ?_)
 obtain ⟨fr1, h1⟩ := q1
 replace h1 : OSl OTMatch 44 3 Φ_1 [] v1 ([] : List TMatch) := by simpa [List.append_assoc] using h1
 replace ph0_0 := ph0_0.frame RTPat.lasts fr1 (Dj.empty _)
 replace ph0_1 := ph0_1.frame RTCond.lasts fr1 (Dj.empty _)
 replace ph0_2 := ph0_2.frame RTAct.lasts fr1 (Dj.empty _)
 replace ph1_0 := ph1_0.frame RTItem.lasts fr1 (Dj.empty _)
 refine WL.conv (S' := St w0 Φ_1 [(b_2, .cells #[pv1_0, .int .i64 p1.Next] 29 (0, 0)), (b_1, .cells #[.string p0.Name, .int .i64 p0.Sal, pv0_0, pv0_1, pv0_2] 40 (0, 0))] [[], ob v1]) (fun w1 hw => hw.addNil) ?_
 refine ln (n_alloc (C := #[.slice none 0 0]) Zr_32 rfl) rfl (fun b_3 => ?_)
 refine so1 0 Sz_32 rfl h1.one ?_
 refine en <| sr <| ld5 Tn_40 2 rfl <| ld2 Tn_29 1 rfl ?_
 refine le' (e_lit0 (R := RI .i64) RI.lasts Sl_41 Zr_3 rfl rfl) rfl (fun v2 Φ_2 D2 q2 => ?_)
 obtain ⟨fr2, h2⟩ := q2
 replace ph0_0 := ph0_0.frame RTPat.lasts fr2 (Dj.empty _)
 replace ph0_1 := ph0_1.frame RTCond.lasts fr2 (Dj.empty _)
 replace ph0_2 := ph0_2.frame RTAct.lasts fr2 (Dj.empty _)
 replace ph1_0 := ph1_0.frame RTItem.lasts fr2 (Dj.empty _)
 replace h1 := h1.frame OTMatch.lasts fr2 (Dj.empty _) (Dj.empty _)
 refine le' (e_lit0 RTBind.lasts Sl_42 Zr_87 rfl rfl) rfl (fun v3 Φ_3 D3 q3 => ?_)
 obtain ⟨fr3, h3⟩ := q3
 replace ph0_0 := ph0_0.frame RTPat.lasts fr3 (Dj.empty _)
 replace ph0_1 := ph0_1.frame RTCond.lasts fr3 (Dj.empty _)
 replace ph0_2 := ph0_2.frame RTAct.lasts fr3 (Dj.empty _)
 replace ph1_0 := ph1_0.frame RTItem.lasts fr3 (Dj.empty _)
 replace h1 := h1.frame OTMatch.lasts fr3 (Dj.empty _) (Dj.empty _)
 replace h2 := h2.frame RI.lasts fr3 (Dj.empty _) (Dj.empty _)
 refine WL.frz (js := [0]) (R := [(b_2, .cells #[pv1_0, .int .i64 p1.Next] 29 (0, 0)), (b_1, .cells #[.string p0.Name, .int .i64 p0.Sal, pv0_0, pv0_1, pv0_2] 40 (0, 0))]) rfl (fun Φ_4 fr4 k1 => ?_)
 replace ph0_0 := ph0_0.frame RTPat.lasts fr4 (Dj.empty _)
 replace ph0_1 := ph0_1.frame RTCond.lasts fr4 (Dj.empty _)
 replace ph0_2 := ph0_2.frame RTAct.lasts fr4 (Dj.empty _)
 replace ph1_0 := ph1_0.frame RTItem.lasts fr4 (Dj.empty _)
 replace h1 := h1.frame OTMatch.lasts fr4 (Dj.empty _) (Dj.empty _)
 replace h2 := h2.frame RI.lasts fr4 (Dj.empty _) (Dj.empty _)
 replace h3 := h3.frame RTBind.lasts fr4 (Dj.empty _) (Dj.empty _)
 obtain ⟨x1, hx1, h⟩ := bs h
 refine lc (k_call (js := [0, 3, 2]) (R := [ob v3, ob v2]) Fun_105 rfl rfl (fun w1 hw ap hl => m_s_l11Rows_ok N hw.fro ([] : List TMatch) p0 p1 ([] : List Int) ([] : List TBind) h1 k1 ph0_0 ph0_1 ph0_2 ph1_0 h2.rsl h3.rsl (ap.o pa0_0) (ap.o pa0_1) (ap.o pa0_2) (ap.o pa1_0) (Dj.app (ap.r (i := 1) rfl) (Dj.nil _)) (Dj.app (ap.r (i := 0) rfl) (Dj.nil _)) ap.nd hl hx1)) rfl (fun v4 Φ_5 F1 q4 => ?_)
 obtain ⟨ap1, fr5, v5, D4, rfl, rfl, h4, h5⟩ := q4
 refine en <| sr <| lq (q_load1 T1_32 rfl (fun w1 hw => ((rg_cells h5).of_eq 0 1 rfl rfl : rg _ _ _ [v5]).rangeAt hw.fro)) rfl <| la rfl <| en ?_
 refine WT.ret Tryz.func50 (resOk.one rfl) (fun w1 hw => ?_)
 subst hb0
 cases h
 refine postG_of_St (js := [1, 1]) hw rfl ⟨v5, D4, rfl, rfl, h4⟩
theorem m_s_l11All_ok {Φ : Hp} {w : World} (hΦ : In Φ w) (N : Nat) (p0 : TDef) (p1 : TStore) {pv0_0 pv1_0 : Value} {pG0_0 pG1_0 : List Nat} (ph0_0 : RSl RTRule 5 Φ pG0_0 pv0_0 p0.Rules) (ph1_0 : RSl RTItem 3 Φ pG1_0 pv1_0 p1.Items) {r : (List TMatch)} (h : m_s_l11All N p0 p1 = some r) :
  Calls Tryz.prog 45 [.agg [.string p0.Name, pv0_0].toArray, .agg [pv1_0, .int .i64 p1.Next].toArray].toArray w (PostG Φ w [] (fun Φ' Fs v => ∃ (sr_0_0 : Value) (Dr_0_0 : List Nat) (X : List Nat), v = sr_0_0 ∧ Fs = [ob sr_0_0, X] ∧ OSl RTMatch 44 3 Φ' Dr_0_0 sr_0_0 r ∧ (∀ k ∈ Dr_0_0, k ∈ X))) := by
 refine enter Tryz.func45 rfl Tryz.ntmps45 rfl (St.start0 hΦ) ?_
 have pa0_0 := Old.mk hΦ ph0_0.kn (Dj.empty _)
 have pa1_0 := Old.mk hΦ ph1_0.kn (Dj.empty _)
 revert pa0_0 pa1_0
 generalize hb0 : (⟨w, [], Φ⟩ : Base) = w0
 intro pa0_0 pa1_0
 unfold m_s_l11All at h
 refine sr ?_
 refine ln (nb rfl) rfl (fun b_1 => ?_)
 refine ln (nb rfl) rfl (fun b_2 => ?_)
 refine la rfl <| en <| sr ?_
 have rc1 : RC OTMatch 3 Φ ([] : List (List Nat)) [] ([] : List TMatch) := RC.nil _ _ _
 refine le' (e_lit (vs := []) (C := #[]) OTMatch.lasts Sl_32 Zr_44 rfl rfl rfl rfl (fill_made MC_44_0 (fill_nil)) rfl rc1 rfl (by simpa using Kw.nil)) rfl (fun v1 Φ_1 D1 q1 => ?_)
 obtain ⟨fr1, h1⟩ := q1
 replace h1 : OSl OTMatch 44 3 Φ_1 [] v1 ([] : List TMatch) := by simpa [List.append_assoc] using h1
 replace ph0_0 := ph0_0.frame RTRule.lasts fr1 (Dj.empty _)
 replace ph1_0 := ph1_0.frame RTItem.lasts fr1 (Dj.empty _)
 refine WL.conv (S' := St w0 Φ_1 [(b_2, .cells #[pv1_0, .int .i64 p1.Next] 29 (0, 0)), (b_1, .cells #[.string p0.Name, pv0_0] 26 (0, 0))] [[], ob v1]) (fun w1 hw => hw.addNil) <| la rfl <| en <| sq <| sr <| la rfl <| en <| blk <| WT.loop <| WT.conv (S' := St w0 Φ_1 [(b_2, .cells #[pv1_0, .int .i64 p1.Next] 29 (0, 0)), (b_1, .cells #[.string p0.Name, pv0_0] 26 (0, 0))] ([] :: [[], ob v1])) (fun w1 hw => hw.addNil) ?_
 replace h1 := h1.gives OTMatch.gives
 refine WT.mono (l' := [(2, .pointer (some ⟨b_1, 0, none⟩)), (3, .pointer (some ⟨b_2, 0, none⟩)), (5, v1), (6, .int .i64 0)]) (S' := St w0 Φ_1 [(b_2, .cells #[pv1_0, .int .i64 p1.Next] 29 (0, 0)), (b_1, .cells #[.string p0.Name, pv0_0] 26 (0, 0))] [[], ob v1]) ⟨rfl, rfl, rfl, rfl, trivial⟩ (fun w1 hw => (hw.sel (js := [0, 1]) rfl).selO (js := [0, 0]) rfl) ?_
 refine loop_ind (σ := Hp × List Nat × (List TMatch) × Value × List Nat × Int) (fun s => [(2, .pointer (some ⟨b_1, 0, none⟩)), (3, .pointer (some ⟨b_2, 0, none⟩)), (5, s.2.2.2.1), (6, .int .i64 s.2.2.2.2.2)]) (fun s => St w0 s.1 [(b_2, .cells #[pv1_0, .int .i64 p1.Next] 29 (0, 0)), (b_1, .cells #[.string p0.Name, pv0_0] 26 (0, 0))] [s.2.1, ob s.2.2.2.1]) (fun m s => m_s_l11All_l1 N p0 p1 m s.2.2.1 s.2.2.2.2.2 = some r ∧ (OSl RTMatch 44 3 s.1 s.2.2.2.2.1 s.2.2.2.1 s.2.2.1) ∧ (∀ k ∈ s.2.2.2.2.1, k ∈ s.2.1) ∧ (RSl RTRule 5 s.1 pG0_0 pv0_0 p0.Rules) ∧ (RSl RTItem 3 s.1 pG1_0 pv1_0 p1.Items)) (fun s hm => none_ne (show (none : Option ((List TMatch))) = some r from hm.1)) (fun n1 ih1 s hm => ?_) N (Φ_1, [], ([] : List TMatch), v1, [], 0) ⟨h, h1, (by simp), ph0_0, ph1_0⟩
 obtain ⟨Φ_2, X1, s1, u1, D2, s2⟩ := s
 obtain ⟨h, k1, i1, ph0_0, ph1_0⟩ := hm
 dsimp only at h k1 i1 ph0_0 ph1_0 ⊢
 unfold m_s_l11All_l1 at h
 refine sq <| sr <| la rfl <| lf Fld_26_1 rfl rfl rfl <| lo T1_24 1 rfl <| lq (q_lenR Sl_24 rfl rfl ph0_0) rfl <| la rfl <| en ?_
 refine cdh rfl h (fun c1 h => ?_) (fun c1 h => ?_)
 ·refine WT.skip <| sq <| blk <| sq <| WT.mix (Kn Φ_2 pG0_0 [(b_2, .cells #[pv1_0, .int .i64 p1.Next] 29 (0, 0)), (b_1, .cells #[.string p0.Name, pv0_0] 26 (0, 0))]) (fun _ => true) mixed (fun _ h => h.drew) <| mq 0 rfl (by kernel_rfl) (kn Kf.id (ai2 0 1 rfl rfl)) (q_fieldAddr Fld_26_1 rfl) rfl <| mq 1 rfl (by kernel_rfl) (kn Kf.id (ai2 0 1 rfl rfl)) (q_load1 T1_24 rfl (fun w1 hw => hw.rgO (i := 1) rfl 1 1 [pv0_0] rfl)) rfl ?_
  refine ma 2 rfl (by kernel_rfl) (kn Kf.id (ai2 0 1 rfl rfl)) rfl ?_
  obtain ⟨x1, hx1, h⟩ := bs h
  obtain ⟨cs1, F1, -, g1, hb1, hs1, r1⟩ := ph0_0.el (idx_some hx1).2.2
  obtain ⟨v2, G1, v3, G2, v4, G3, rfl, rfl, h2, h3, h4⟩ := r1
  refine mq 3 rfl (by kernel_rfl) (kn Kf.id (ai2 0 1 rfl rfl)) (q_indexAddr Sl_24 rfl rfl ph0_0 hx1) rfl <| mq 4 rfl (by kernel_rfl) (kn Kf.id (ai2 0 1 rfl rfl)) (q_loadN Tn_40 rfl (fun w1 hw => hw.rg hb1 (g1.of_eq 0 5 rfl rfl : rg _ _ _ [.string x1.Name, .int .i64 x1.Sal, v2, v3, v4])) rfl) rfl <| mq 5 rfl (by kernel_rfl) (kn Kf.id (ai2 0 1 rfl rfl)) (q_loadN Tn_29 rfl (fun w1 hw => hw.rgO (i := 0) rfl 0 2 [pv1_0, .int .i64 p1.Next] rfl) rfl) rfl ?_
  obtain ⟨x2, hx2, h⟩ := bs h
  refine WM.one 6 (by kernel_rfl) (mc rfl (fun _ v Φx D w1 hq hw => Kn.of (Kf.id.st hq.2.1 (hq.1.o pa0_0)) (ai2 0 1 rfl rfl) hw) (k_call (js := []) (R := [X1, ob u1]) Fun_50 rfl rfl (fun w1 hw ap hl => m_s_l11Of_ok hw.fro N x1 p1 h2 h3 h4 ph1_0  hx2)) rfl (fun v5 Φ_3 F2 q2 => ?_))
  obtain ⟨ap1, fr2, v6, D3, rfl, rfl, h5⟩ := q2
  replace ph0_0 := ph0_0.frame RTRule.lasts fr2 (ap1.o pa0_0)
  replace ph1_0 := ph1_0.frame RTItem.lasts fr2 (ap1.o pa1_0)
  replace k1 := k1.frame RTMatch.lasts fr2 (ap1.r (i := 1) rfl) (Dj.sub (ap1.r (i := 0) rfl) i1)
  have kf1 := (Kf.id (F := pG0_0) : Kf Φ_2 _ _).st fr2 (ap1.o pa0_0)
  refine ma 7 rfl (by kernel_rfl) (kn kf1 (ai2 0 1 rfl rfl)) rfl <| WM.nil (by kernel_rfl) <| sr <| la rfl <| en <| blk ?_
  refine loop_in (σ := Hp × (List TMatch) × Value × List Nat × (List TMatch) × List Nat × Int) (fun s => [(2, .pointer (some ⟨b_1, 0, none⟩)), (3, .pointer (some ⟨b_2, 0, none⟩)), (5, s.2.2.1), (6, .int .i64 s2), (7, v5), (8, .int .i64 s.2.2.2.2.2.2)]) (fun s => St w0 s.1 [(b_2, .cells #[pv1_0, .int .i64 p1.Next] 29 (0, 0)), (b_1, .cells #[.string p0.Name, pv0_0] 26 (0, 0))] [ob v5, s.2.2.2.2.2.1, X1, ob s.2.2.1]) (fun m s => m_s_l11All_l2 N s2 (m_s_l11All_l1 N p0 p1 n1) m s.2.1 s.2.2.2.2.1 s.2.2.2.2.2.2 = some r ∧ (OSl RTMatch 44 3 s.1 s.2.2.2.1 s.2.2.1 s.2.1) ∧ (∀ k ∈ s.2.2.2.1, k ∈ (X1 ++ s.2.2.2.2.2.1)) ∧ (OSl OTMatch 44 3 s.1 s.2.2.2.2.2.1 v5 s.2.2.2.2.1) ∧ (RSl RTRule 5 s.1 pG0_0 pv0_0 p0.Rules) ∧ (RSl RTItem 3 s.1 pG1_0 pv1_0 p1.Items)) (Φ_3, s1, u1, D2, x2, D3, 0) N ⟨h, k1, (fun k hk => (List.mem_append.2 (.inl (i1 k hk)))), h5, ph0_0, ph1_0⟩ ⟨rfl, rfl, rfl, rfl, rfl, rfl, trivial⟩ (fun w1 hw => (hw.sel (js := [0, 0, 0, 0]) rfl).selO (js := [0, 0]) rfl) (fun s hm => none_ne hm.1) (fun n2 ih2 s hm => ?_)
  obtain ⟨Φ_4, s3, u2, D4, s4, D5, s5⟩ := s
  obtain ⟨h, k2, i2, k3, ph0_0, ph1_0⟩ := hm
  dsimp only at h k2 i2 k3 ph0_0 ph1_0 ⊢
  unfold m_s_l11All_l2 at h
  refine sq <| sr <| la rfl <| la rfl <| lq (q_lenR Sl_32 rfl rfl (k3.rslG OTMatch.gives)) rfl <| la rfl <| en ?_
  refine cdh rfl h (fun c2 h => ?_) (fun c2 h => ?_)
  ·refine WT.skip <| sq <| blk <| sr <| la rfl <| la rfl <| la rfl ?_
   obtain ⟨x3, hx3, h⟩ := bs h
   obtain ⟨cs2, F3, D6, h6, r2, kf1, sp1, mM1⟩ := k3.focusM hx3
   obtain ⟨v7, v8, rfl, rfl, h7, h8⟩ := r2
   refine WL.conv (S' := St w0 Φ_4 [(b_2, .cells #[pv1_0, .int .i64 p1.Next] 29 (0, 0)), (b_1, .cells #[.string p0.Name, pv0_0] 26 (0, 0))] [ob v7, ob v8, D6, ob v5, X1, ob u2]) (fun w1 hw => hw.re (js := [1]) (Bs := [ob v7, ob v8, D6]) rfl (by simpa [List.append_assoc] using sp1)) <| lq (q_indexAddrH Sl_32 rfl rfl h6 hx3) rfl <| lf Fld_44_0 rfl rfl rfl ?_
   refine lu (u_setH (js := [3]) (Rr := [ob v7, ob v8, D6, X1, ob u2]) (o := 0) (vs := [.int .i64 s2]) (cs' := [.int .i64 s2, v7, v8]) OTMatch.lasts Sz_3 rfl rfl rfl rfl ⟨rfl, trivial⟩ rfl h6 rfl rfl (fun ap => (ap.r (i := 2) rfl))) rfl (fun Φ_5 D7 q3 => ?_)
   obtain ⟨⟨ap2, fr3⟩, h9⟩ := q3
   replace ph0_0 := ph0_0.frame RTRule.lasts fr3 (ap2.o pa0_0)
   replace ph1_0 := ph1_0.frame RTItem.lasts fr3 (ap2.o pa1_0)
   replace k2 := k2.frame RTMatch.lasts fr3 (ap2.r (i := 4) rfl) (Dj.sub (Dj.app (ap2.r (i := 3) rfl) (Dj.sub (Dj.app (Dj.app (Dj.sub (ap2.r (i := 0) rfl) apnil) (Dj.sub (ap2.r (i := 1) rfl) apnil)) (ap2.r (i := 2) rfl)) mM1)) i2)
   replace h7 := h7.frame RI.lasts fr3 (ap2.r (i := 0) rfl) (Dj.nil _)
   replace h8 := h8.frame RTBind.lasts fr3 (ap2.r (i := 1) rfl) (Dj.nil _)
   refine en <| rgn <| la rfl <| la rfl <| la rfl <| lq (q_indexAddrH Sl_32 rfl rfl h9 hx3) rfl <| lg3 0 Tn_44 h9.rg rfl rfl ?_
   have rc2 : RC RTMatch 3 Φ_5 ([(ob v7 ++ []) ++ ((ob v8 ++ []))] : List (List Nat)) [.int .i64 s2, v7, v8] ([(⟨s2, x3.Ids, x3.Binds⟩ : TMatch)] : List TMatch) := RC.cons (c := [.int .i64 s2, v7, v8]) (cells := []) ⟨v7, (ob v7 ++ []), v8, (ob v8 ++ []), rfl, rfl, h7.rsl, h8.rsl⟩ rfl (RC.nil _ _ _)
   refine le' (e_lit (vs := [(0, .agg [.int .i64 s2, v7, v8].toArray)]) (C := #[.int .i64 s2, v7, v8]) RTMatch.lasts Sl_32 Zr_44 rfl rfl rfl rfl (fill_made MC_44_1 (fill_cons (C' := [.int .i64 s2, v7, v8]) rfl rfl rfl rfl rfl (fill_nil))) rfl rc2 rfl (RC.kn RTMatch.knows rc2)) rfl (fun v9 Φ_6 D8 q4 => ?_)
   obtain ⟨fr4, h10⟩ := q4
   replace h10 : OSl RTMatch 44 3 Φ_6 ((ob v7 ++ []) ++ ((ob v8 ++ []))) v9 ([(⟨s2, x3.Ids, x3.Binds⟩ : TMatch)] : List TMatch) := by simpa [List.append_assoc] using h10
   replace ph0_0 := ph0_0.frame RTRule.lasts fr4 (Dj.empty _)
   replace ph1_0 := ph1_0.frame RTItem.lasts fr4 (Dj.empty _)
   replace k2 := k2.frame RTMatch.lasts fr4 (Dj.empty _) (Dj.empty _)
   replace h9 := h9.frame OTMatch.lasts fr4 (Dj.empty _) (Dj.empty _)
   replace h7 := h7.frame RI.lasts fr4 (Dj.empty _) (Dj.empty _)
   replace h8 := h8.frame RTBind.lasts fr4 (Dj.empty _) (Dj.empty _)
   obtain ⟨x4, hx4, h⟩ := bs h
   refine le' (e_appO RTMatch.lasts RTMatch.one Sl_32 Ei_44 rfl rfl rfl rfl rfl (js := [6]) (Rr := [ob v9, ob v5, ob v7, ob v8, D6, X1]) rfl k2 h10 (fun ap => (Dj.sub (Dj.app (ap.r (i := 5) rfl) (Dj.sub (Dj.app (Dj.app (Dj.sub (ap.r (i := 2) rfl) apnil) (Dj.sub (ap.r (i := 3) rfl) apnil)) (ap.r (i := 4) rfl)) mM1)) i2)) (fun ap => (Dj.sub (Dj.app (Dj.sub (ap.r (i := 2) rfl) apnil) (Dj.sub (ap.r (i := 3) rfl) apnil)) (fun k hk => (by simpa [List.append_assoc] using hk : k ∈ ((ob v7 ++ []) ++ (ob v8 ++ [])))))) hx4) rfl (fun v10 Φ_7 D9 q5 => ?_)
   obtain ⟨⟨ap3, fr5⟩, h11⟩ := q5
   replace ph0_0 := ph0_0.frame RTRule.lasts fr5 (ap3.o pa0_0)
   replace ph1_0 := ph1_0.frame RTItem.lasts fr5 (ap3.o pa1_0)
   replace h9 := h9.frame OTMatch.lasts fr5 (ap3.r (i := 1) rfl) (ap3.r (i := 4) rfl)
   replace h7 := h7.frame RI.lasts fr5 (ap3.r (i := 2) rfl) (Dj.nil _)
   replace h8 := h8.frame RTBind.lasts fr5 (ap3.r (i := 3) rfl) (Dj.nil _)
   refine la rfl <| en <| ib <| rgn <| la rfl <| la rfl <| la rfl <| en ?_
   have r3 : OTMatch Φ_7 _ [.int .i64 s2, v7, v8] (⟨s2, x3.Ids, x3.Binds⟩ : TMatch) := ⟨v7, v8, rfl, rfl, h7, h8⟩
   obtain ⟨D10, h12, sp2, mF1, mD1⟩ := h9.unfocusM r3 (OTMatch.knows _ _ _ _ r3)
   refine WT.conv (S' := St w0 Φ_7 [(b_2, .cells #[pv1_0, .int .i64 p1.Next] 29 (0, 0)), (b_1, .cells #[.string p0.Name, pv0_0] 26 (0, 0))] [D10, ob v10, ob v9, ob v5, X1]) (fun w1 hw => hw.merge (js := [3, 3, 3]) rfl (by simpa [List.append_assoc, ob_nil] using sp2)) ?_
   exact lback (ih2 (Φ_7, x4, v10, (D4 ++ ((ob v7 ++ []) ++ ((ob v8 ++ [])))), (s4.set s5.toNat (⟨s2, x3.Ids, x3.Binds⟩ : TMatch)), D10, IntKind.i64.wrap (s5 + 1)) ⟨h, h11, (fun k hk => ((List.mem_append.1 hk).elim (fun h => ((List.mem_append.1 (i2 k h)).elim (fun h => (List.mem_append.2 (.inl h))) (fun h => ((List.mem_append.1 (mM1 k h)).elim (fun h => ((List.mem_append.1 h).elim (fun h => (List.mem_append.2 (.inr ((fun k hk => mF1 k (List.mem_append.2 (.inl (List.mem_append.2 (.inl hk))))) k (apnil k h))))) (fun h => (List.mem_append.2 (.inr ((fun k hk => mF1 k (List.mem_append.2 (.inr (List.mem_append.2 (.inl hk))))) k (apnil k h))))))) (fun h => (List.mem_append.2 (.inr (mD1 k h)))))))) (fun h => ((List.mem_append.1 ((fun k hk => (by simpa [List.append_assoc] using hk : k ∈ ((ob v7 ++ []) ++ (ob v8 ++ [])))) k h)).elim (fun h => (List.mem_append.2 (.inr ((fun k hk => mF1 k (List.mem_append.2 (.inl (List.mem_append.2 (.inl hk))))) k (apnil k h))))) (fun h => (List.mem_append.2 (.inr ((fun k hk => mF1 k (List.mem_append.2 (.inr (List.mem_append.2 (.inl hk))))) k (apnil k h))))))))), h12, ph0_0, ph1_0⟩) ⟨rfl, rfl, rfl, rfl, rfl, rfl, trivial⟩ (fun w1 hw => (hw.sel (js := [3, 0, 2, 0]) rfl).selO (js := [0, 0]) rfl)
  refine xt rfl <| ib <| rgn <| la rfl <| la rfl <| la rfl <| en <| WT.conv (S' := St w0 Φ_4 [(b_2, .cells #[pv1_0, .int .i64 p1.Next] 29 (0, 0)), (b_1, .cells #[.string p0.Name, pv0_0] 26 (0, 0))] [(X1 ++ (D5)), ob v5, ob u2]) (fun w1 hw => hw.merge (js := [2, 1]) rfl (SP.eq (by simp [List.append_assoc]))) ?_
  exact lback (ih1 (Φ_4, (X1 ++ (D5)), s3, u2, D4, IntKind.i64.wrap (s2 + 1)) ⟨h, k2, (fun k hk => ((List.mem_append.1 (i2 k hk)).elim (fun h => ((fun k hk => (List.mem_append.2 (.inl hk))) k h)) (fun h => ((fun k hk => (List.mem_append.2 (.inr hk))) k h)))), ph0_0, ph1_0⟩) ⟨rfl, rfl, rfl, rfl, trivial⟩ (fun w1 hw => (hw.sel (js := [0, 1]) rfl).selO (js := [0, 0]) rfl)
 refine xt rfl <| sr <| la rfl <| la rfl <| en ?_
 refine WT.ret Tryz.func45 (resOk.one rfl) (fun w1 hw => ?_)
 subst hb0
 cases h
 replace hw := hw.merge (js := [0]) (F := [X1].flatten) rfl (SP.eq (by simp))
 refine postG_of_St (js := [1, 0]) hw rfl ⟨u1, D2, [X1].flatten, rfl, rfl, k1, (fun k hk => (List.mem_flatten.2 ⟨X1, by simp, (i1 k hk)⟩))⟩
theorem m_s_AllMatches_ok {Φ : Hp} {w : World} (hΦ : In Φ w) (N : Nat) (p0 : TDef) (p1 : TStore) {pv0_0 pv1_0 : Value} {pG0_0 pG1_0 : List Nat} (ph0_0 : RSl RTRule 5 Φ pG0_0 pv0_0 p0.Rules) (ph1_0 : RSl RTItem 3 Φ pG1_0 pv1_0 p1.Items) {r : (List TMatch)} (h : m_s_AllMatches N p0 p1 = some r) :
  Calls Tryz.prog 13 [.agg [.string p0.Name, pv0_0].toArray, .agg [pv1_0, .int .i64 p1.Next].toArray].toArray w (PostG Φ w [] (fun Φ' Fs v => ∃ (sr_0_0 : Value) (Dr_0_0 : List Nat) (X : List Nat), v = sr_0_0 ∧ Fs = [ob sr_0_0, X] ∧ OSl RTMatch 44 3 Φ' Dr_0_0 sr_0_0 r ∧ (∀ k ∈ Dr_0_0, k ∈ X))) := by
 refine enter Tryz.func13 rfl Tryz.ntmps13 rfl (St.start0 hΦ) ?_
 generalize hb0 : (⟨w, [], Φ⟩ : Base) = w0
 unfold m_s_AllMatches at h
 refine sr ?_
 refine ln (nb rfl) rfl (fun b_1 => ?_)
 refine ln (nb rfl) rfl (fun b_2 => ?_)
 refine la rfl <| en <| sq <| sr <| ld2 Tn_26 1 rfl ?_
 obtain ⟨x1, hx1, h⟩ := bs h
 refine lp (p_call Fun_9 rfl (fun w1 hw => m_s_DefOk_ok hw.fro N p0 ph0_0 hx1)) rfl <| la rfl <| la rfl ?_
 obtain ⟨b1, hb_1, h⟩ := bs h
 refine WL.cutN 4 [(12, .bool b1), (2, .pointer (some ⟨b_1, 0, none⟩)), (3, .pointer (some ⟨b_2, 0, none⟩))] ?_ (fun K => ?_)
 rotate_left
 ·refine spl 8 rfl hb_1 (fun c1 hb_1 => ?_) (fun c1 hb_1 => ?_)
  ·refine la rfl <| la rfl <| la rfl <| la rfl ?_
   cases hb_1
   exact kk K ⟨rfl, rfl, rfl, trivial⟩
  ·refine ly rfl rfl <| ld2 Tn_29 0 rfl <| ly rfl rfl ?_
   obtain ⟨x2, hx2, hb_1⟩ := bs hb_1
   refine lp (p_call Fun_44 rfl (fun w1 hw => m_s_StoreOk_ok hw.fro N p1 ph1_0 hx2)) rfl <| ly rfl rfl <| la rfl <| la rfl ?_
   cases hb_1
   exact kk K ⟨rfl, rfl, rfl, trivial⟩
 refine en ?_
 refine cdh rfl h (fun c2 h => ?_) (fun c2 h => ?_)
 ·refine sr ?_
  have rc1 : RC OTMatch 3 Φ ([] : List (List Nat)) [] ([] : List TMatch) := RC.nil _ _ _
  refine le' (e_lit (vs := []) (C := #[]) OTMatch.lasts Sl_32 Zr_44 rfl rfl rfl rfl (fill_made MC_44_0 (fill_nil)) rfl rc1 rfl (by simpa using Kw.nil)) rfl (fun v1 Φ_1 D1 q1 => ?_)
  obtain ⟨fr1, h1⟩ := q1
  replace h1 : OSl OTMatch 44 3 Φ_1 [] v1 ([] : List TMatch) := by simpa [List.append_assoc] using h1
  refine WL.conv (S' := St w0 Φ_1 [(b_2, .cells #[pv1_0, .int .i64 p1.Next] 29 (0, 0)), (b_1, .cells #[.string p0.Name, pv0_0] 26 (0, 0))] [[], ob v1]) (fun w1 hw => hw.addNil) <| la rfl <| en ?_
  refine WT.ret Tryz.func13 (resOk.one rfl) (fun w1 hw => ?_)
  subst hb0
  cases h
  replace hw := hw.merge (js := [0]) (F := [[]].flatten) rfl (SP.eq (by simp))
  refine postG_of_St (js := [1, 0]) hw rfl ⟨v1, [], [[]].flatten, rfl, rfl, (h1.gives OTMatch.gives), (by simp)⟩
 refine WT.skip <| sr <| ld2 Tn_26 1 rfl <| ld2 Tn_29 0 rfl ?_
 obtain ⟨x3, hx3, h⟩ := bs h
 refine lc (k_call (js := []) (R := []) Fun_45 rfl rfl (fun w1 hw ap hl => m_s_l11All_ok hw.fro N p0 p1 ph0_0 ph1_0  hx3)) rfl (fun v2 Φ_2 F1 q2 => ?_)
 obtain ⟨ap1, fr2, v3, D2, X1, rfl, rfl, h2, i1⟩ := q2
 refine la rfl <| en ?_
 refine WT.ret Tryz.func13 (resOk.one rfl) (fun w1 hw => ?_)
 subst hb0
 cases h
 replace hw := hw.merge (js := [1]) (F := [X1].flatten) rfl (SP.eq (by simp))
 refine postG_of_St (js := [1, 0]) hw rfl ⟨v2, D2, [X1].flatten, rfl, rfl, h2, (fun k hk => (List.mem_flatten.2 ⟨X1, by simp, (i1 k hk)⟩))⟩
theorem m_l_szVal_ok {Φ : Hp} {w : World} (hΦ : In Φ w) (N : Nat) (p0 : TVal) (p1 : Int)   {r : Int} (h : m_l_szVal N p0 p1 = some r) :
  Calls Tryz.prog 189 [.agg [.int .i64 p0.K, .int .i64 p0.N, .string p0.S].toArray, .int .i64 p1].toArray w (Post (.int .i64 r) w) := by
 refine enter Tryz.func189 rfl Tryz.ntmps189 rfl (St.start0 hΦ) ?_
 unfold m_l_szVal at h
 refine sr ?_
 refine ln (nb rfl) rfl (fun b_1 => ?_)
 refine la rfl <| en <| sr <| la rfl <| lf Fld_154_2 rfl rfl rfl <| lo T1_9 0 rfl <| lq (q_lenS Str_9 rfl rfl) rfl <| la rfl <| la rfl <| en <| sq <| sr <| la rfl <| la rfl <| en ?_
 refine cdh rfl h (fun c1 h => ?_) (fun c1 h => ?_)
 ·refine sr <| la rfl <| en ?_
  refine WT.ret Tryz.func189 (resOk.one rfl) (fun w1 hw => ?_)
  cases h
  exact post_of_St hw
 refine WT.skip <| sr <| la rfl <| la rfl <| en ?_
 refine WT.ret Tryz.func189 (resOk.one rfl) (fun w1 hw => ?_)
 cases h
 exact post_of_St hw
theorem m_l_szValS_ok {Φ : Hp} {w : World} (hΦ : In Φ w) (N : Nat) (p0 : (List TVal)) (p1 : Int) {pv0 : Value} {pG0 : List Nat} (ph0 : RSl RTVal 3 Φ pG0 pv0 p0) {r : Int} (h : m_l_szValS N p0 p1 = some r) :
  Calls Tryz.prog 191 [pv0, .int .i64 p1].toArray w (Post (.int .i64 r) w) := by
 refine enter Tryz.func191 rfl Tryz.ntmps191 rfl (St.start0 hΦ) ?_
 generalize hb0 : (⟨w, [], Φ⟩ : Base) = w0
 unfold m_l_szValS at h
 refine sr <| la rfl <| en <| sr <| la rfl <| la rfl <| lq (q_lenR Sl_164 rfl rfl ph0) rfl <| la rfl <| la rfl <| en <| sq <| sr <| la rfl <| la rfl <| en ?_
 refine cdh rfl h (fun c1 h => ?_) (fun c1 h => ?_)
 ·refine sr <| la rfl <| en ?_
  refine WT.ret Tryz.func191 (resOk.one rfl) (fun w1 hw => ?_)
  subst hb0
  cases h
  exact post_of_St hw
 refine WT.skip <| sq <| sr <| la rfl <| en <| blk ?_
 refine loop_in (σ := Int × Int) (fun s => [(0, pv0), (1, .int .i64 s.1), (5, .int .i64 s.2)]) (fun s => St w0 Φ [] []) (fun m s => m_l_szValS_l1 N p0 m s.1 s.2 = some r) (IntKind.i64.wrap (p1 - (p0.length : Int)), 0) N h ⟨rfl, rfl, rfl, trivial⟩ (fun w1 hw => (hw.sel (js := []) rfl).selO (js := []) rfl) (fun s hm => none_ne hm) (fun n1 ih1 s hm => ?_)
 obtain ⟨s1, s2⟩ := s
 have h : m_l_szValS_l1 N p0 (n1 + 1) s1 s2 = some r := hm
 show WT _ _ [(0, pv0), (1, .int .i64 s1), (5, .int .i64 s2)] (St w0 Φ [] [])
 unfold m_l_szValS_l1 at h
 refine sq <| sr <| la rfl <| la rfl <| lq (q_lenR Sl_164 rfl rfl ph0) rfl <| la rfl <| en ?_
 refine cdh rfl h (fun c2 h => ?_) (fun c2 h => ?_)
 ·refine WT.skip <| sq <| blk <| sr <| la rfl <| la rfl ?_
  obtain ⟨x1, hx1, h⟩ := bs h
  obtain ⟨cs1, F1, -, g1, hb1, hs1, r1⟩ := ph0.el (idx_some hx1).2.2
  obtain ⟨rfl, -⟩ := r1
  refine lq (q_indexAddr Sl_164 rfl rfl ph0 hx1) rfl <| lg3 0 Tn_154 g1 rfl rfl <| la rfl ?_
  obtain ⟨x2, hx2, h⟩ := bs h
  refine lp (p_call Fun_189 rfl (fun w1 hw => m_l_szVal_ok hw.fro N x1 s1 hx2)) rfl <| la rfl <| en <| sr <| la rfl <| la rfl <| en ?_
  refine cdh rfl h (fun c3 h => ?_) (fun c3 h => ?_)
  ·refine sr <| la rfl <| en ?_
   refine WT.ret Tryz.func191 (resOk.one rfl) (fun w1 hw => ?_)
   subst hb0
   cases h
   exact post_of_St hw
  refine WT.skip <| ib <| rgn <| la rfl <| la rfl <| la rfl <| en ?_
  exact lback (ih1 (x2, IntKind.i64.wrap (s2 + 1)) h) ⟨rfl, rfl, rfl, trivial⟩ (fun w1 hw => (hw.sel (js := []) rfl).selO (js := []) rfl)
 refine xt rfl <| sr <| la rfl <| la rfl <| en ?_
 refine WT.ret Tryz.func191 (resOk.one rfl) (fun w1 hw => ?_)
 subst hb0
 cases h
 exact post_of_St hw
theorem m_l_szFact_ok {Φ : Hp} {w : World} (hΦ : In Φ w) (N : Nat) (p0 : TFact) (p1 : Int) {pv0_0 : Value} {pG0_0 : List Nat} (ph0_0 : RSl RTVal 3 Φ pG0_0 pv0_0 p0.Fields) {r : Int} (h : m_l_szFact N p0 p1 = some r) :
  Calls Tryz.prog 160 [.agg [.string p0.Kind, pv0_0].toArray, .int .i64 p1].toArray w (Post (.int .i64 r) w) := by
 refine enter Tryz.func160 rfl Tryz.ntmps160 rfl (St.start0 hΦ) ?_
 unfold m_l_szFact at h
 refine sr ?_
 refine ln (nb rfl) rfl (fun b_1 => ?_)
 refine la rfl <| en <| sr <| la rfl <| lf Fld_166_0 rfl rfl rfl <| lo T1_9 0 rfl <| lq (q_lenS Str_9 rfl rfl) rfl <| la rfl <| la rfl <| en <| sq <| sr <| la rfl <| la rfl <| en ?_
 refine cdh rfl h (fun c1 h => ?_) (fun c1 h => ?_)
 ·refine sr <| la rfl <| en ?_
  refine WT.ret Tryz.func160 (resOk.one rfl) (fun w1 hw => ?_)
  cases h
  exact post_of_St hw
 refine WT.skip <| sr <| lf Fld_166_1 rfl rfl rfl <| lo T1_164 0 rfl <| la rfl ?_
 obtain ⟨x1, hx1, h⟩ := bs h
 refine lp (p_call Fun_191 rfl (fun w1 hw => m_l_szValS_ok hw.fro N p0.Fields (IntKind.i64.wrap (p1 - (p0.Kind.size : Int))) ph0_0 hx1)) rfl <| la rfl <| en <| sq <| sr <| la rfl <| la rfl <| en ?_
 refine cdh rfl h (fun c2 h => ?_) (fun c2 h => ?_)
 ·refine sr <| la rfl <| en ?_
  refine WT.ret Tryz.func160 (resOk.one rfl) (fun w1 hw => ?_)
  cases h
  exact post_of_St hw
 refine WT.skip <| sr <| la rfl <| la rfl <| en ?_
 refine WT.ret Tryz.func160 (resOk.one rfl) (fun w1 hw => ?_)
 cases h
 exact post_of_St hw
theorem m_l_szItem_ok {Φ : Hp} {w : World} (hΦ : In Φ w) (N : Nat) (p0 : TItem) (p1 : Int) {pv0_0 : Value} {pG0_0 : List Nat} (ph0_0 : RSl RTVal 3 Φ pG0_0 pv0_0 p0.F.Fields) {r : Int} (h : m_l_szItem N p0 p1 = some r) :
  Calls Tryz.prog 104 [.agg [.int .i64 p0.Id, .string p0.F.Kind, pv0_0].toArray, .int .i64 p1].toArray w (Post (.int .i64 r) w) := by
 refine enter Tryz.func104 rfl Tryz.ntmps104 rfl (St.start0 hΦ) ?_
 unfold m_l_szItem at h
 refine sr ?_
 refine ln (nb rfl) rfl (fun b_1 => ?_)
 refine la rfl <| en <| sr <| lf Fld_168_1 rfl rfl rfl <| ld2 Tn_166 0 rfl <| la rfl ?_
 obtain ⟨x1, hx1, h⟩ := bs h
 refine lp (p_call Fun_160 rfl (fun w1 hw => m_l_szFact_ok hw.fro N p0.F p1 ph0_0 hx1)) rfl <| la rfl <| en <| sq <| sr <| la rfl <| la rfl <| en ?_
 refine cdh rfl h (fun c1 h => ?_) (fun c1 h => ?_)
 ·refine sr <| la rfl <| en ?_
  refine WT.ret Tryz.func104 (resOk.one rfl) (fun w1 hw => ?_)
  cases h
  exact post_of_St hw
 refine WT.skip <| sr <| la rfl <| la rfl <| en ?_
 refine WT.ret Tryz.func104 (resOk.one rfl) (fun w1 hw => ?_)
 cases h
 exact post_of_St hw
theorem m_l_szItemS_ok {Φ : Hp} {w : World} (hΦ : In Φ w) (N : Nat) (p0 : (List TItem)) (p1 : Int) {pv0 : Value} {pG0 : List Nat} (ph0 : RSl RTItem 3 Φ pG0 pv0 p0) {r : Int} (h : m_l_szItemS N p0 p1 = some r) :
  Calls Tryz.prog 49 [pv0, .int .i64 p1].toArray w (Post (.int .i64 r) w) := by
 refine enter Tryz.func49 rfl Tryz.ntmps49 rfl (St.start0 hΦ) ?_
 generalize hb0 : (⟨w, [], Φ⟩ : Base) = w0
 unfold m_l_szItemS at h
 refine sr <| la rfl <| en <| sr <| la rfl <| la rfl <| lq (q_lenR Sl_52 rfl rfl ph0) rfl <| la rfl <| la rfl <| en <| sq <| sr <| la rfl <| la rfl <| en ?_
 refine cdh rfl h (fun c1 h => ?_) (fun c1 h => ?_)
 ·refine sr <| la rfl <| en ?_
  refine WT.ret Tryz.func49 (resOk.one rfl) (fun w1 hw => ?_)
  subst hb0
  cases h
  exact post_of_St hw
 refine WT.skip <| sq <| sr <| la rfl <| en <| blk ?_
 refine loop_in (σ := Int × Int) (fun s => [(0, pv0), (1, .int .i64 s.1), (5, .int .i64 s.2)]) (fun s => St w0 Φ [] []) (fun m s => m_l_szItemS_l1 N p0 m s.1 s.2 = some r) (IntKind.i64.wrap (p1 - (p0.length : Int)), 0) N h ⟨rfl, rfl, rfl, trivial⟩ (fun w1 hw => (hw.sel (js := []) rfl).selO (js := []) rfl) (fun s hm => none_ne hm) (fun n1 ih1 s hm => ?_)
 obtain ⟨s1, s2⟩ := s
 have h : m_l_szItemS_l1 N p0 (n1 + 1) s1 s2 = some r := hm
 show WT _ _ [(0, pv0), (1, .int .i64 s1), (5, .int .i64 s2)] (St w0 Φ [] [])
 unfold m_l_szItemS_l1 at h
 refine sq <| sr <| la rfl <| la rfl <| lq (q_lenR Sl_52 rfl rfl ph0) rfl <| la rfl <| en ?_
 refine cdh rfl h (fun c2 h => ?_) (fun c2 h => ?_)
 ·refine WT.skip <| sq <| blk <| sr <| la rfl <| la rfl ?_
  obtain ⟨x1, hx1, h⟩ := bs h
  obtain ⟨cs1, F1, -, g1, hb1, hs1, r1⟩ := ph0.el (idx_some hx1).2.2
  obtain ⟨v1, G1, rfl, hq1, h1⟩ := r1
  obtain rfl := hq1.symm
  refine lq (q_indexAddr Sl_52 rfl rfl ph0 hx1) rfl <| lg3 0 Tn_168 g1 rfl rfl <| la rfl ?_
  obtain ⟨x2, hx2, h⟩ := bs h
  refine lp (p_call Fun_104 rfl (fun w1 hw => m_l_szItem_ok hw.fro N x1 s1 h1 hx2)) rfl <| la rfl <| en <| sr <| la rfl <| la rfl <| en ?_
  refine cdh rfl h (fun c3 h => ?_) (fun c3 h => ?_)
  ·refine sr <| la rfl <| en ?_
   refine WT.ret Tryz.func49 (resOk.one rfl) (fun w1 hw => ?_)
   subst hb0
   cases h
   exact post_of_St hw
  refine WT.skip <| ib <| rgn <| la rfl <| la rfl <| la rfl <| en ?_
  exact lback (ih1 (x2, IntKind.i64.wrap (s2 + 1)) h) ⟨rfl, rfl, rfl, trivial⟩ (fun w1 hw => (hw.sel (js := []) rfl).selO (js := []) rfl)
 refine xt rfl <| sr <| la rfl <| la rfl <| en ?_
 refine WT.ret Tryz.func49 (resOk.one rfl) (fun w1 hw => ?_)
 subst hb0
 cases h
 exact post_of_St hw
theorem m_l_szStore_ok {Φ : Hp} {w : World} (hΦ : In Φ w) (N : Nat) (p0 : TStore) (p1 : Int) {pv0_0 : Value} {pG0_0 : List Nat} (ph0_0 : RSl RTItem 3 Φ pG0_0 pv0_0 p0.Items) {r : Int} (h : m_l_szStore N p0 p1 = some r) :
  Calls Tryz.prog 15 [.agg [pv0_0, .int .i64 p0.Next].toArray, .int .i64 p1].toArray w (Post (.int .i64 r) w) := by
 refine enter Tryz.func15 rfl Tryz.ntmps15 rfl (St.start0 hΦ) ?_
 unfold m_l_szStore at h
 refine sr ?_
 refine ln (nb rfl) rfl (fun b_1 => ?_)
 refine la rfl <| en <| sr <| lf Fld_54_0 rfl rfl rfl <| lo T1_52 0 rfl <| la rfl ?_
 obtain ⟨x1, hx1, h⟩ := bs h
 refine lp (p_call Fun_49 rfl (fun w1 hw => m_l_szItemS_ok hw.fro N p0.Items p1 ph0_0 hx1)) rfl <| la rfl <| en <| sq <| sr <| la rfl <| la rfl <| en ?_
 refine cdh rfl h (fun c1 h => ?_) (fun c1 h => ?_)
 ·refine sr <| la rfl <| en ?_
  refine WT.ret Tryz.func15 (resOk.one rfl) (fun w1 hw => ?_)
  cases h
  exact post_of_St hw
 refine WT.skip <| sr <| la rfl <| la rfl <| en ?_
 refine WT.ret Tryz.func15 (resOk.one rfl) (fun w1 hw => ?_)
 cases h
 exact post_of_St hw
theorem m_l_toVal_ok {Φ : Hp} {w : World} (hΦ : In Φ w) (N : Nat) (p0 : TVal)   {r : TVal} (h : m_l_toVal N p0 = some r) :
  Calls Tryz.prog 194 [.agg [.int .i64 p0.K, .int .i64 p0.N, .string p0.S].toArray].toArray w (Post (.agg [.int .i64 r.K, .int .i64 r.N, .string r.S].toArray) w) := by
 refine enter Tryz.func194 rfl Tryz.ntmps194 rfl (St.start0 hΦ) ?_
 unfold m_l_toVal at h
 refine sr ?_
 refine ln (nb rfl) rfl (fun b_1 => ?_)
 refine ln (nz Zr_85) rfl (fun b_2 => ?_)
 refine en <| sr ?_
 refine ln (nz Zr_85) rfl (fun b_3 => ?_)
 refine en <| sr <| lf Fld_154_0 rfl rfl rfl <| lo T1_3 2 rfl <| lf Fld_85_0 rfl rfl rfl <| so1 0 Sz_3 rfl rfl ?_
 refine en <| sr <| lf Fld_154_1 rfl rfl rfl <| lo T1_3 2 rfl <| lf Fld_85_1 rfl rfl rfl <| so1 0 Sz_3 rfl rfl ?_
 refine en <| sr <| lf Fld_154_2 rfl rfl rfl <| lo T1_9 2 rfl <| lf Fld_85_2 rfl rfl rfl <| so1 0 Sz_9 rfl rfl ?_
 refine en <| sr <| ld3 Tn_85 0 rfl <| soN 1 Sz_85 rfl ⟨rfl, rfl, rfl, trivial⟩ rfl ?_
 refine en ?_
 refine WT.ret Tryz.func194 (resOk.one (rv_cell Tn_85 rfl (fun w1 hw => hw.rgO (i := 1) rfl 0 3 [.int .i64 p0.K, .int .i64 p0.N, .string p0.S] rfl) rfl)) (fun w1 hw => ?_)
 cases h
 exact post_of_St hw
theorem m_l_toValS_ok {Φ : Hp} {w : World} (hΦ : In Φ w) (N : Nat) (p0 : (List TVal)) {pv0 : Value} {pG0 : List Nat} (ph0 : RSl RTVal 3 Φ pG0 pv0 p0) {r : (List TVal)} (h : m_l_toValS N p0 = some r) :
  Calls Tryz.prog 196 [pv0].toArray w (PostG Φ w [] (fun Φ' Fs v => ∃ (sr_0_0 : Value), v = sr_0_0 ∧ Fs = [ob sr_0_0] ∧ OSl RTVal 85 3 Φ' [] sr_0_0 r)) := by
 refine enter Tryz.func196 rfl Tryz.ntmps196 rfl (St.start0 hΦ) ?_
 have pa0 := Old.mk hΦ ph0.kn (Dj.empty _)
 revert pa0
 generalize hb0 : (⟨w, [], Φ⟩ : Base) = w0
 intro pa0
 unfold m_l_toValS at h
 refine sr <| la rfl <| en <| sr <| la rfl <| lq (q_lenR Sl_164 rfl rfl ph0) rfl ?_
 obtain ⟨x1, hx1, h⟩ := bs h
 refine le' (e_make (R := RTVal) Sl_121 Zr_85 By_85 rfl rfl rfl (fun _ => ⟨rfl, rfl⟩) rfl rfl (Int.le_refl _) hx1 (mk_le hx1)) rfl (fun v1 Φ_1 D1 q1 => ?_)
 obtain ⟨fr1, h1⟩ := q1
 replace ph0 := ph0.frame RTVal.lasts fr1 (Dj.empty _)
 refine la rfl <| en <| sq <| sr <| la rfl <| en <| blk ?_
 refine loop_in (σ := Hp × (List TVal) × Int) (fun s => [(0, pv0), (3, v1), (4, .int .i64 s.2.2)]) (fun s => St w0 s.1 [] [ob v1]) (fun m s => m_l_toValS_l1 N p0 m s.2.1 s.2.2 = some r ∧ (OSl RTVal 85 3 s.1 [] v1 s.2.1) ∧ (RSl RTVal 3 s.1 pG0 pv0 p0)) (Φ_1, x1, 0) N ⟨h, h1, ph0⟩ ⟨rfl, rfl, rfl, trivial⟩ (fun w1 hw => (hw.sel (js := [0]) rfl).selO (js := []) rfl) (fun s hm => none_ne hm.1) (fun n1 ih1 s hm => ?_)
 obtain ⟨Φ_2, s1, s2⟩ := s
 obtain ⟨h, k1, ph0⟩ := hm
 dsimp only at h k1 ph0 ⊢
 unfold m_l_toValS_l1 at h
 refine sq <| sr <| la rfl <| la rfl <| lq (q_lenR Sl_164 rfl rfl ph0) rfl <| la rfl <| en ?_
 refine cdh rfl h (fun c1 h => ?_) (fun c1 h => ?_)
 ·refine WT.skip <| sq <| blk <| rgn <| la rfl <| la rfl <| la rfl <| la rfl ?_
  obtain ⟨x2, hx2, h⟩ := bs h
  obtain ⟨cs1, F1, -, g1, hb1, hs1, r1⟩ := ph0.el (idx_some hx2).2.2
  obtain ⟨rfl, -⟩ := r1
  refine lq (q_indexAddr Sl_164 rfl rfl ph0 hx2) rfl <| lg3 0 Tn_154 g1 rfl rfl ?_
  obtain ⟨x3, hx3, h⟩ := bs h
  refine lp (p_call Fun_194 rfl (fun w1 hw => m_l_toVal_ok hw.fro N x2 hx3)) rfl ?_
  obtain ⟨x4, hx4, h⟩ := bs h
  obtain ⟨cs2, F2, -, g2, hb2, hs2, r2⟩ := k1.elS (idx_some hx4).2.2
  obtain ⟨rfl, -⟩ := r2
  refine lq (q_indexAddr Sl_121 rfl rfl k1.rsl hx4) rfl ?_
  refine lu (u_setF (js := [0]) (Rr := []) (vs := [.int .i64 x3.K, .int .i64 x3.N, .string x3.S]) (x' := x3) RTVal.lasts RTVal.flat Sz_85 rfl rfl rfl rfl ⟨rfl, rfl, rfl, trivial⟩ rfl k1 (idx_lt hx4) ⟨rfl, rfl⟩) rfl (fun Φ_3 D2 q2 => ?_)
  obtain ⟨⟨ap1, fr2⟩, h2⟩ := q2
  replace ph0 := ph0.frame RTVal.lasts fr2 (ap1.o pa0)
  refine en <| ib <| rgn <| la rfl <| la rfl <| la rfl <| en ?_
  exact lback (ih1 (Φ_3, (s1.set s2.toNat x3), IntKind.i64.wrap (s2 + 1)) ⟨h, h2, ph0⟩) ⟨rfl, rfl, rfl, trivial⟩ (fun w1 hw => (hw.sel (js := [0]) rfl).selO (js := []) rfl)
 refine xt rfl <| sr <| la rfl <| la rfl <| en ?_
 refine WT.ret Tryz.func196 (resOk.one rfl) (fun w1 hw => ?_)
 subst hb0
 cases h
 refine postG_of_St (js := [0]) hw rfl ⟨v1, rfl, rfl, k1⟩
theorem m_l_toFact_ok {Φ : Hp} {w : World} (hΦ : In Φ w) (N : Nat) (p0 : TFact) {pv0_0 : Value} {pG0_0 : List Nat} (ph0_0 : RSl RTVal 3 Φ pG0_0 pv0_0 p0.Fields) {r : TFact} (h : m_l_toFact N p0 = some r) :
  Calls Tryz.prog 167 [.agg [.string p0.Kind, pv0_0].toArray].toArray w (PostG Φ w [] (fun Φ' Fs v => ∃ (sr_0_0 : Value), v = .agg [.string r.Kind, sr_0_0].toArray ∧ Fs = [ob sr_0_0] ∧ OSl RTVal 85 3 Φ' [] sr_0_0 r.Fields)) := by
 refine enter Tryz.func167 rfl Tryz.ntmps167 rfl (St.start0 hΦ) ?_
 unfold m_l_toFact at h
 refine sr ?_
 refine ln (nb rfl) rfl (fun b_1 => ?_)
 refine ln (nz Zr_123) rfl (fun b_2 => ?_)
 refine en <| sr ?_
 refine ln (nz Zr_123) rfl (fun b_3 => ?_)
 refine en <| sr <| lf Fld_166_0 rfl rfl rfl <| lo T1_9 2 rfl <| lf Fld_123_0 rfl rfl rfl <| so1 0 Sz_9 rfl rfl ?_
 refine en <| sr <| lf Fld_166_1 rfl rfl rfl <| lo T1_164 2 rfl ?_
 obtain ⟨x1, hx1, h⟩ := bs h
 refine lc (k_call (js := []) (R := []) Fun_196 rfl rfl (fun w1 hw ap hl => m_l_toValS_ok hw.fro N p0.Fields ph0_0  hx1)) rfl (fun v1 Φ_1 F1 q1 => ?_)
 obtain ⟨ap1, fr1, v2, rfl, rfl, h1⟩ := q1
 refine lf Fld_123_1 rfl rfl rfl <| so1 0 Sz_121 rfl h1.one ?_
 refine en <| sr <| ld2 Tn_123 0 rfl <| soN 1 Sz_123 rfl ⟨rfl, h1.one, trivial⟩ rfl ?_
 refine en ?_
 refine WT.ret Tryz.func167 (resOk.one (rv_cell Tn_123 rfl (fun w1 hw => hw.rgO (i := 1) rfl 0 2 [.string p0.Kind, v1] rfl) rfl)) (fun w1 hw => ?_)
 cases h
 refine postG_of_St (js := [0]) hw rfl ⟨v1, rfl, rfl, h1⟩
theorem m_l_toItem_ok {Φ : Hp} {w : World} (hΦ : In Φ w) (N : Nat) (p0 : TItem) {pv0_0 : Value} {pG0_0 : List Nat} (ph0_0 : RSl RTVal 3 Φ pG0_0 pv0_0 p0.F.Fields) {r : TItem} (h : m_l_toItem N p0 = some r) :
  Calls Tryz.prog 109 [.agg [.int .i64 p0.Id, .string p0.F.Kind, pv0_0].toArray].toArray w (PostG Φ w [] (fun Φ' Fs v => ∃ (sr_0_0 : Value), v = .agg [.int .i64 r.Id, .string r.F.Kind, sr_0_0].toArray ∧ Fs = [ob sr_0_0] ∧ OSl RTVal 85 3 Φ' [] sr_0_0 r.F.Fields)) := by
 refine enter Tryz.func109 rfl Tryz.ntmps109 rfl (St.start0 hΦ) ?_
 unfold m_l_toItem at h
 refine sr ?_
 refine ln (nb rfl) rfl (fun b_1 => ?_)
 refine ln (nz Zr_125) rfl (fun b_2 => ?_)
 refine en <| sr ?_
 refine ln (nz Zr_125) rfl (fun b_3 => ?_)
 refine en <| sr <| lf Fld_168_0 rfl rfl rfl <| lo T1_3 2 rfl <| lf Fld_125_0 rfl rfl rfl <| so1 0 Sz_3 rfl rfl ?_
 refine en <| sr <| lf Fld_168_1 rfl rfl rfl <| ld2 Tn_166 2 rfl ?_
 obtain ⟨x1, hx1, h⟩ := bs h
 refine lc (k_call (js := []) (R := []) Fun_167 rfl rfl (fun w1 hw ap hl => m_l_toFact_ok hw.fro N p0.F ph0_0  hx1)) rfl (fun v1 Φ_1 F1 q1 => ?_)
 obtain ⟨ap1, fr1, v2, rfl, rfl, h1⟩ := q1
 refine lf Fld_125_1 rfl rfl rfl <| soN 0 Sz_123 rfl ⟨rfl, h1.one, trivial⟩ rfl ?_
 refine en <| sr <| ld3 Tn_125 0 rfl <| soN 1 Sz_125 rfl ⟨rfl, rfl, h1.one, trivial⟩ rfl ?_
 refine en ?_
 refine WT.ret Tryz.func109 (resOk.one (rv_cell Tn_125 rfl (fun w1 hw => hw.rgO (i := 1) rfl 0 3 [.int .i64 p0.Id, .string x1.Kind, v2] rfl) rfl)) (fun w1 hw => ?_)
 cases h
 refine postG_of_St (js := [0]) hw rfl ⟨v2, rfl, rfl, h1⟩
theorem m_l_toItemS_ok {Φ : Hp} {w : World} (hΦ : In Φ w) (N : Nat) (p0 : (List TItem)) {pv0 : Value} {pG0 : List Nat} (ph0 : RSl RTItem 3 Φ pG0 pv0 p0) {r : (List TItem)} (h : m_l_toItemS N p0 = some r) :
  Calls Tryz.prog 54 [pv0].toArray w (PostG Φ w [] (fun Φ' Fs v => ∃ (sr_0_0 : Value) (Dr_0_0 : List Nat), v = sr_0_0 ∧ Fs = [ob sr_0_0, Dr_0_0] ∧ OSl OTItem 125 3 Φ' Dr_0_0 sr_0_0 r)) := by
 refine enter Tryz.func54 rfl Tryz.ntmps54 rfl (St.start0 hΦ) ?_
 have pa0 := Old.mk hΦ ph0.kn (Dj.empty _)
 revert pa0
 generalize hb0 : (⟨w, [], Φ⟩ : Base) = w0
 intro pa0
 unfold m_l_toItemS at h
 refine sr <| la rfl <| en <| sr <| la rfl <| lq (q_lenR Sl_52 rfl rfl ph0) rfl ?_
 obtain ⟨x1, hx1, h⟩ := bs h
 refine le' (e_make (R := OTItem) Sl_27 Zr_125 By_125 rfl rfl rfl (fun _ => ⟨.slice none 0 0, rfl, rfl, OSl.nil _ _ _ _⟩) rfl rfl (Int.le_refl _) hx1 (mk_le hx1)) rfl (fun v1 Φ_1 D1 q1 => ?_)
 obtain ⟨fr1, h1⟩ := q1
 replace ph0 := ph0.frame RTItem.lasts fr1 (Dj.empty _)
 refine WL.conv (S' := St w0 Φ_1 [] ([] :: [ob v1])) (fun w1 hw => hw.addNil) <| la rfl <| en <| sq <| sr <| la rfl <| en <| blk ?_
 refine loop_in (σ := Hp × (List TItem) × List Nat × Int) (fun s => [(0, pv0), (3, v1), (4, .int .i64 s.2.2.2)]) (fun s => St w0 s.1 [] [s.2.2.1, ob v1]) (fun m s => m_l_toItemS_l1 N p0 m s.2.1 s.2.2.2 = some r ∧ (OSl OTItem 125 3 s.1 s.2.2.1 v1 s.2.1) ∧ (RSl RTItem 3 s.1 pG0 pv0 p0)) (Φ_1, x1, [], 0) N ⟨h, h1, ph0⟩ ⟨rfl, rfl, rfl, trivial⟩ (fun w1 hw => (hw.sel (js := [0, 0]) rfl).selO (js := []) rfl) (fun s hm => none_ne hm.1) (fun n1 ih1 s hm => ?_)
 obtain ⟨Φ_2, s1, D2, s2⟩ := s
 obtain ⟨h, k1, ph0⟩ := hm
 dsimp only at h k1 ph0 ⊢
 unfold m_l_toItemS_l1 at h
 refine sq <| sr <| la rfl <| la rfl <| lq (q_lenR Sl_52 rfl rfl ph0) rfl <| la rfl <| en ?_
 refine cdh rfl h (fun c1 h => ?_) (fun c1 h => ?_)
 ·refine WT.skip <| sq <| blk <| rgn <| la rfl <| la rfl <| la rfl <| la rfl ?_
  obtain ⟨x2, hx2, h⟩ := bs h
  obtain ⟨cs1, F1, -, g1, hb1, hs1, r1⟩ := ph0.el (idx_some hx2).2.2
  obtain ⟨v2, G1, rfl, hq1, h2⟩ := r1
  obtain rfl := hq1.symm
  refine lq (q_indexAddr Sl_52 rfl rfl ph0 hx2) rfl <| lg3 0 Tn_168 g1 rfl rfl ?_
  obtain ⟨x3, hx3, h⟩ := bs h
  refine lc (k_call (js := []) (R := [D2, ob v1]) Fun_109 rfl rfl (fun w1 hw ap hl => m_l_toItem_ok hw.fro N x2 h2  hx3)) rfl (fun v3 Φ_3 F2 q2 => ?_)
  obtain ⟨ap1, fr2, v4, rfl, rfl, h3⟩ := q2
  replace ph0 := ph0.frame RTItem.lasts fr2 (ap1.o pa0)
  replace k1 := k1.frame OTItem.lasts fr2 (ap1.r (i := 1) rfl) (ap1.r (i := 0) rfl)
  obtain ⟨x4, hx4, h⟩ := bs h
  obtain ⟨cs2, F3, -, g2, hb2, hs2, r2⟩ := k1.elS (idx_some hx4).2.2
  obtain ⟨v5, rfl, rfl, h4⟩ := r2
  have h5 := h4.rsl
  refine lq (q_indexAddr Sl_27 rfl rfl k1.rsl hx4) rfl ?_
  have r3 : OTItem Φ_3 ((ob v4 ++ [])) [.int .i64 x3.Id, .string x3.F.Kind, v4] x3 := ⟨v4, rfl, rfl, h3⟩
  refine lu (u_setO (js := [2]) (Rr := [ob v4, D2]) (vs := [.int .i64 x3.Id, .string x3.F.Kind, v4]) (x' := x3) OTItem.lasts Sz_125 rfl rfl rfl rfl ⟨rfl, rfl, h3.one, trivial⟩ rfl k1 (idx_lt hx4) r3 (OTItem.knows _ _ _ _ r3) (fun ap => (ap.r (i := 1) rfl)) (fun ap => by simpa [ob_nil] using (ap.r (i := 0) rfl))) rfl (fun Φ_4 D3 q3 => ?_)
  obtain ⟨⟨ap2, fr3⟩, sp1, h6⟩ := q3
  replace ph0 := ph0.frame RTItem.lasts fr3 (ap2.o pa0)
  refine WL.conv (S' := St w0 Φ_4 [] [D3, ob v1]) (fun w1 hw => hw.merge (js := [2, 1]) rfl (by simpa [List.append_assoc, ob_nil] using sp1)) <| en <| ib <| rgn <| la rfl <| la rfl <| la rfl <| en ?_
  exact lback (ih1 (Φ_4, (s1.set s2.toNat x3), D3, IntKind.i64.wrap (s2 + 1)) ⟨h, h6, ph0⟩) ⟨rfl, rfl, rfl, trivial⟩ (fun w1 hw => (hw.sel (js := [0, 0]) rfl).selO (js := []) rfl)
 refine xt rfl <| sr <| la rfl <| la rfl <| en ?_
 refine WT.ret Tryz.func54 (resOk.one rfl) (fun w1 hw => ?_)
 subst hb0
 cases h
 refine postG_of_St (js := [1, 0]) hw rfl ⟨v1, D2, rfl, rfl, k1⟩
theorem m_l_toStore_ok {Φ : Hp} {w : World} (hΦ : In Φ w) (N : Nat) (p0 : TStore) {pv0_0 : Value} {pG0_0 : List Nat} (ph0_0 : RSl RTItem 3 Φ pG0_0 pv0_0 p0.Items) {r : TStore} (h : m_l_toStore N p0 = some r) :
  Calls Tryz.prog 18 [.agg [pv0_0, .int .i64 p0.Next].toArray].toArray w (PostG Φ w [] (fun Φ' Fs v => ∃ (sr_0_0 : Value) (Dr_0_0 : List Nat), v = .agg [sr_0_0, .int .i64 r.Next].toArray ∧ Fs = [ob sr_0_0, Dr_0_0] ∧ OSl OTItem 125 3 Φ' Dr_0_0 sr_0_0 r.Items)) := by
 refine enter Tryz.func18 rfl Tryz.ntmps18 rfl (St.start0 hΦ) ?_
 have pa0_0 := Old.mk hΦ ph0_0.kn (Dj.empty _)
 unfold m_l_toStore at h
 refine sr ?_
 refine ln (nb rfl) rfl (fun b_1 => ?_)
 refine ln (nz Zr_29) rfl (fun b_2 => ?_)
 refine en <| sr ?_
 refine ln (nz Zr_29) rfl (fun b_3 => ?_)
 refine en <| sr <| lf Fld_54_0 rfl rfl rfl <| lo T1_52 2 rfl ?_
 obtain ⟨x1, hx1, h⟩ := bs h
 refine lc (k_call (js := []) (R := []) Fun_54 rfl rfl (fun w1 hw ap hl => m_l_toItemS_ok hw.fro N p0.Items ph0_0  hx1)) rfl (fun v1 Φ_1 F1 q1 => ?_)
 obtain ⟨ap1, fr1, v2, D1, rfl, rfl, h1⟩ := q1
 replace ph0_0 := ph0_0.frame RTItem.lasts fr1 (ap1.o pa0_0)
 refine lf Fld_29_0 rfl rfl rfl <| so1 0 Sz_27 rfl h1.one ?_
 refine en <| sr <| lf Fld_54_1 rfl rfl rfl <| lo T1_3 2 rfl <| lf Fld_29_1 rfl rfl rfl <| so1 0 Sz_3 rfl rfl ?_
 refine en <| sr <| ld2 Tn_29 0 rfl <| soN 1 Sz_29 rfl ⟨h1.one, rfl, trivial⟩ rfl ?_
 refine en ?_
 refine WT.ret Tryz.func18 (resOk.one (rv_cell Tn_29 rfl (fun w1 hw => hw.rgO (i := 1) rfl 0 2 [v1, .int .i64 p0.Next] rfl) rfl)) (fun w1 hw => ?_)
 cases h
 refine postG_of_St (js := [0, 0]) hw rfl ⟨v1, D1, rfl, rfl, h1⟩
theorem m_l_eqIntS_ok {Φ : Hp} {w : World} (hΦ : In Φ w) (N : Nat) (p0 : (List Int)) (p1 : (List Int)) {pv0 pv1 : Value} {pG0 pG1 : List Nat} (ph0 : RSl (RI .i64) 1 Φ pG0 pv0 p0) (ph1 : RSl (RI .i64) 1 Φ pG1 pv1 p1) {r : Bool} (h : m_l_eqIntS N p0 p1 = some r) :
  Calls Tryz.prog 110 [pv0, pv1].toArray w (Post (.bool r) w) := by
 refine enter Tryz.func110 rfl Tryz.ntmps110 rfl (St.start0 hΦ) ?_
 generalize hb0 : (⟨w, [], Φ⟩ : Base) = w0
 unfold m_l_eqIntS at h
 refine sr <| la rfl <| en <| sq <| sr <| la rfl <| lq (q_lenR Sl_41 rfl rfl ph0) rfl <| la rfl <| lq (q_lenR Sl_41 rfl rfl ph1) rfl <| la rfl <| en ?_
 refine cdh rfl h (fun c1 h => ?_) (fun c1 h => ?_)
 ·refine sr <| la rfl <| en ?_
  refine WT.ret Tryz.func110 (resOk.one rfl) (fun w1 hw => ?_)
  subst hb0
  cases h
  exact post_of_St hw
 refine WT.skip <| sq <| sr <| la rfl <| en <| blk ?_
 refine loop_in (σ := Int) (fun s => [(0, pv0), (1, pv1), (5, .int .i64 s)]) (fun s => St w0 Φ [] []) (fun m s => m_l_eqIntS_l1 N p0 p1 m s = some r) (0) N h ⟨rfl, rfl, rfl, trivial⟩ (fun w1 hw => (hw.sel (js := []) rfl).selO (js := []) rfl) (fun s hm => none_ne hm) (fun n1 ih1 s hm => ?_)
 revert hm; revert s; intro s1 hm
 have h : m_l_eqIntS_l1 N p0 p1 (n1 + 1) s1 = some r := hm
 show WT _ _ [(0, pv0), (1, pv1), (5, .int .i64 s1)] (St w0 Φ [] [])
 unfold m_l_eqIntS_l1 at h
 refine sq <| sr <| la rfl <| la rfl <| lq (q_lenR Sl_41 rfl rfl ph0) rfl <| la rfl <| en ?_
 refine cdh rfl h (fun c2 h => ?_) (fun c2 h => ?_)
 ·refine WT.skip <| sq <| blk <| sq <| WT.draw mixed (by kernel_rfl) (fun _ h => h.drew) <| qq (q_move rfl) rfl <| qq (q_move rfl) rfl ?_
  obtain ⟨x1, hx1, h⟩ := bs h
  obtain ⟨cs1, F1, -, g1, hb1, hs1, r1⟩ := ph0.el (idx_some hx1).2.2
  obtain ⟨rfl, -⟩ := r1
  refine qq (q_indexAddr Sl_41 rfl rfl ph0 hx1) rfl <| qq (q_load1 T1_3 rfl (fun w1 hw => (g1.of_eq 0 1 rfl rfl : rg _ _ _ [.int .i64 x1]).rangeAt hw.fro)) rfl <| qq (q_move rfl) rfl <| qq (q_move rfl) rfl ?_
  obtain ⟨x2, hx2, h⟩ := bs h
  obtain ⟨cs2, F2, -, g2, hb2, hs2, r2⟩ := ph1.el (idx_some hx2).2.2
  obtain ⟨rfl, -⟩ := r2
  refine qq (q_indexAddr Sl_41 rfl rfl ph1 hx2) rfl <| qq (q_load1 T1_3 rfl (fun w1 hw => (g2.of_eq 0 1 rfl rfl : rg _ _ _ [.int .i64 x2]).rangeAt hw.fro)) rfl <| qq (q_neq rfl rfl) rfl <| WQ.nil ?_
  refine cdh rfl h (fun c3 h => ?_) (fun c3 h => ?_)
  ·refine sr <| la rfl <| en ?_
   refine WT.ret Tryz.func110 (resOk.one rfl) (fun w1 hw => ?_)
   subst hb0
   cases h
   exact post_of_St hw
  refine WT.skip <| ib <| rgn <| la rfl <| la rfl <| la rfl <| en ?_
  exact lback (ih1 (IntKind.i64.wrap (s1 + 1)) h) ⟨rfl, rfl, rfl, trivial⟩ (fun w1 hw => (hw.sel (js := []) rfl).selO (js := []) rfl)
 refine xt rfl <| sr <| la rfl <| en ?_
 refine WT.ret Tryz.func110 (resOk.one rfl) (fun w1 hw => ?_)
 subst hb0
 cases h
 exact post_of_St hw
theorem m_l_eqVal_ok {Φ : Hp} {w : World} (hΦ : In Φ w) (N : Nat) (p0 : TVal) (p1 : TVal)   {r : Bool} (h : m_l_eqVal N p0 p1 = some r) :
  Calls Tryz.prog 197 [.agg [.int .i64 p0.K, .int .i64 p0.N, .string p0.S].toArray, .agg [.int .i64 p1.K, .int .i64 p1.N, .string p1.S].toArray].toArray w (Post (.bool r) w) := by
 refine enter Tryz.func197 rfl Tryz.ntmps197 rfl (St.start0 hΦ) ?_
 unfold m_l_eqVal at h
 refine sr ?_
 refine ln (nb rfl) rfl (fun b_1 => ?_)
 refine ln (nb rfl) rfl (fun b_2 => ?_)
 refine la rfl <| en <| sq <| sr <| lf Fld_85_0 rfl rfl rfl <| lo T1_3 1 rfl <| lf Fld_85_0 rfl rfl rfl <| lo T1_3 0 rfl <| la rfl <| en ?_
 refine cdh rfl h (fun c1 h => ?_) (fun c1 h => ?_)
 ·refine sr <| la rfl <| en ?_
  refine WT.ret Tryz.func197 (resOk.one rfl) (fun w1 hw => ?_)
  cases h
  exact post_of_St hw
 refine WT.skip <| sq <| sr <| lf Fld_85_1 rfl rfl rfl <| lo T1_3 1 rfl <| lf Fld_85_1 rfl rfl rfl <| lo T1_3 0 rfl <| la rfl <| en ?_
 refine cdh rfl h (fun c2 h => ?_) (fun c2 h => ?_)
 ·refine sr <| la rfl <| en ?_
  refine WT.ret Tryz.func197 (resOk.one rfl) (fun w1 hw => ?_)
  cases h
  exact post_of_St hw
 refine WT.skip <| sq <| sr <| lf Fld_85_2 rfl rfl rfl <| lo T1_9 1 rfl <| lf Fld_85_2 rfl rfl rfl <| lo T1_9 0 rfl <| la rfl <| en ?_
 refine cdh rfl h (fun c3 h => ?_) (fun c3 h => ?_)
 ·refine sr <| la rfl <| en ?_
  refine WT.ret Tryz.func197 (resOk.one rfl) (fun w1 hw => ?_)
  cases h
  exact post_of_St hw
 refine WT.skip <| sr <| la rfl <| en ?_
 refine WT.ret Tryz.func197 (resOk.one rfl) (fun w1 hw => ?_)
 cases h
 exact post_of_St hw
theorem m_l_eqBind_ok {Φ : Hp} {w : World} (hΦ : In Φ w) (N : Nat) (p0 : TBind) (p1 : TBind)   {r : Bool} (h : m_l_eqBind N p0 p1 = some r) :
  Calls Tryz.prog 168 [.agg [.string p0.Name, .int .i64 p0.V.K, .int .i64 p0.V.N, .string p0.V.S].toArray, .agg [.string p1.Name, .int .i64 p1.V.K, .int .i64 p1.V.N, .string p1.V.S].toArray].toArray w (Post (.bool r) w) := by
 refine enter Tryz.func168 rfl Tryz.ntmps168 rfl (St.start0 hΦ) ?_
 unfold m_l_eqBind at h
 refine sr ?_
 refine ln (nb rfl) rfl (fun b_1 => ?_)
 refine ln (nb rfl) rfl (fun b_2 => ?_)
 refine la rfl <| en <| sq <| sr <| lf Fld_87_0 rfl rfl rfl <| lo T1_9 1 rfl <| lf Fld_87_0 rfl rfl rfl <| lo T1_9 0 rfl <| la rfl <| en ?_
 refine cdh rfl h (fun c1 h => ?_) (fun c1 h => ?_)
 ·refine sr <| la rfl <| en ?_
  refine WT.ret Tryz.func168 (resOk.one rfl) (fun w1 hw => ?_)
  cases h
  exact post_of_St hw
 refine WT.skip <| sq <| sr <| lf Fld_87_1 rfl rfl rfl <| ld3 Tn_85 1 rfl <| lf Fld_87_1 rfl rfl rfl <| ld3 Tn_85 0 rfl ?_
 obtain ⟨x1, hx1, h⟩ := bs h
 refine lp (p_call Fun_197 rfl (fun w1 hw => m_l_eqVal_ok hw.fro N p0.V p1.V hx1)) rfl <| la rfl <| en ?_
 refine cdh rfl h (fun c2 h => ?_) (fun c2 h => ?_)
 ·refine sr <| la rfl <| en ?_
  refine WT.ret Tryz.func168 (resOk.one rfl) (fun w1 hw => ?_)
  cases h
  exact post_of_St hw
 refine WT.skip <| sr <| la rfl <| en ?_
 refine WT.ret Tryz.func168 (resOk.one rfl) (fun w1 hw => ?_)
 cases h
 exact post_of_St hw
theorem m_l_eqBindS_ok {Φ : Hp} {w : World} (hΦ : In Φ w) (N : Nat) (p0 : (List TBind)) (p1 : (List TBind)) {pv0 pv1 : Value} {pG0 pG1 : List Nat} (ph0 : RSl RTBind 4 Φ pG0 pv0 p0) (ph1 : RSl RTBind 4 Φ pG1 pv1 p1) {r : Bool} (h : m_l_eqBindS N p0 p1 = some r) :
  Calls Tryz.prog 111 [pv0, pv1].toArray w (Post (.bool r) w) := by
 refine enter Tryz.func111 rfl Tryz.ntmps111 rfl (St.start0 hΦ) ?_
 generalize hb0 : (⟨w, [], Φ⟩ : Base) = w0
 unfold m_l_eqBindS at h
 refine sr <| la rfl <| en <| sq <| sr <| la rfl <| lq (q_lenR Sl_42 rfl rfl ph0) rfl <| la rfl <| lq (q_lenR Sl_42 rfl rfl ph1) rfl <| la rfl <| en ?_
 refine cdh rfl h (fun c1 h => ?_) (fun c1 h => ?_)
 ·refine sr <| la rfl <| en ?_
  refine WT.ret Tryz.func111 (resOk.one rfl) (fun w1 hw => ?_)
  subst hb0
  cases h
  exact post_of_St hw
 refine WT.skip <| sq <| sr <| la rfl <| en <| blk ?_
 refine loop_in (σ := Int) (fun s => [(0, pv0), (1, pv1), (5, .int .i64 s)]) (fun s => St w0 Φ [] []) (fun m s => m_l_eqBindS_l1 N p0 p1 m s = some r) (0) N h ⟨rfl, rfl, rfl, trivial⟩ (fun w1 hw => (hw.sel (js := []) rfl).selO (js := []) rfl) (fun s hm => none_ne hm) (fun n1 ih1 s hm => ?_)
 revert hm; revert s; intro s1 hm
 have h : m_l_eqBindS_l1 N p0 p1 (n1 + 1) s1 = some r := hm
 show WT _ _ [(0, pv0), (1, pv1), (5, .int .i64 s1)] (St w0 Φ [] [])
 unfold m_l_eqBindS_l1 at h
 refine sq <| sr <| la rfl <| la rfl <| lq (q_lenR Sl_42 rfl rfl ph0) rfl <| la rfl <| en ?_
 refine cdh rfl h (fun c2 h => ?_) (fun c2 h => ?_)
 ·refine WT.skip <| sq <| blk <| sq <| WT.draw mixed (by kernel_rfl) (fun _ h => h.drew) <| qq (q_move rfl) rfl <| qq (q_move rfl) rfl ?_
  obtain ⟨x1, hx1, h⟩ := bs h
  obtain ⟨cs1, F1, -, g1, hb1, hs1, r1⟩ := ph0.el (idx_some hx1).2.2
  obtain ⟨rfl, -⟩ := r1
  refine qq (q_indexAddr Sl_42 rfl rfl ph0 hx1) rfl <| qq (q_loadN Tn_87 rfl (fun w1 hw => (g1.of_eq 0 4 rfl rfl : rg _ _ _ [.string x1.Name, .int .i64 x1.V.K, .int .i64 x1.V.N, .string x1.V.S]).rangeAt hw.fro) rfl) rfl <| qq (q_move rfl) rfl <| qq (q_move rfl) rfl ?_
  obtain ⟨x2, hx2, h⟩ := bs h
  obtain ⟨cs2, F2, -, g2, hb2, hs2, r2⟩ := ph1.el (idx_some hx2).2.2
  obtain ⟨rfl, -⟩ := r2
  refine qq (q_indexAddr Sl_42 rfl rfl ph1 hx2) rfl <| qq (q_loadN Tn_87 rfl (fun w1 hw => (g2.of_eq 0 4 rfl rfl : rg _ _ _ [.string x2.Name, .int .i64 x2.V.K, .int .i64 x2.V.N, .string x2.V.S]).rangeAt hw.fro) rfl) rfl ?_
  obtain ⟨x3, hx3, h⟩ := bs h
  refine qp (p_call Fun_168 rfl (fun w1 hw => m_l_eqBind_ok hw.fro N x1 x2 hx3)) rfl <| qq (q_not rfl) rfl <| WQ.nil ?_
  refine cdh rfl h (fun c3 h => ?_) (fun c3 h => ?_)
  ·refine sr <| la rfl <| en ?_
   refine WT.ret Tryz.func111 (resOk.one rfl) (fun w1 hw => ?_)
   subst hb0
   cases h
   exact post_of_St hw
  refine WT.skip <| ib <| rgn <| la rfl <| la rfl <| la rfl <| en ?_
  exact lback (ih1 (IntKind.i64.wrap (s1 + 1)) h) ⟨rfl, rfl, rfl, trivial⟩ (fun w1 hw => (hw.sel (js := []) rfl).selO (js := []) rfl)
 refine xt rfl <| sr <| la rfl <| en ?_
 refine WT.ret Tryz.func111 (resOk.one rfl) (fun w1 hw => ?_)
 subst hb0
 cases h
 exact post_of_St hw
theorem m_l_eqMatch_ok {Φ : Hp} {w : World} (hΦ : In Φ w) (N : Nat) (p0 : TMatch) (p1 : TMatch) {pv0_0 pv0_1 pv1_0 pv1_1 : Value} {pG0_0 pG0_1 pG1_0 pG1_1 : List Nat} (ph0_0 : RSl (RI .i64) 1 Φ pG0_0 pv0_0 p0.Ids) (ph0_1 : RSl RTBind 4 Φ pG0_1 pv0_1 p0.Binds) (ph1_0 : RSl (RI .i64) 1 Φ pG1_0 pv1_0 p1.Ids) (ph1_1 : RSl RTBind 4 Φ pG1_1 pv1_1 p1.Binds) {r : Bool} (h : m_l_eqMatch N p0 p1 = some r) :
  Calls Tryz.prog 55 [.agg [.int .i64 p0.Rule, pv0_0, pv0_1].toArray, .agg [.int .i64 p1.Rule, pv1_0, pv1_1].toArray].toArray w (Post (.bool r) w) := by
 refine enter Tryz.func55 rfl Tryz.ntmps55 rfl (St.start0 hΦ) ?_
 unfold m_l_eqMatch at h
 refine sr ?_
 refine ln (nb rfl) rfl (fun b_1 => ?_)
 refine ln (nb rfl) rfl (fun b_2 => ?_)
 refine la rfl <| en <| sq <| sr <| lf Fld_44_0 rfl rfl rfl <| lo T1_3 1 rfl <| lf Fld_44_0 rfl rfl rfl <| lo T1_3 0 rfl <| la rfl <| en ?_
 refine cdh rfl h (fun c1 h => ?_) (fun c1 h => ?_)
 ·refine sr <| la rfl <| en ?_
  refine WT.ret Tryz.func55 (resOk.one rfl) (fun w1 hw => ?_)
  cases h
  exact post_of_St hw
 refine WT.skip <| sq <| sr <| lf Fld_44_1 rfl rfl rfl <| lo T1_41 1 rfl <| lf Fld_44_1 rfl rfl rfl <| lo T1_41 0 rfl ?_
 obtain ⟨x1, hx1, h⟩ := bs h
 refine lp (p_call Fun_110 rfl (fun w1 hw => m_l_eqIntS_ok hw.fro N p0.Ids p1.Ids ph0_0 ph1_0 hx1)) rfl <| la rfl <| en ?_
 refine cdh rfl h (fun c2 h => ?_) (fun c2 h => ?_)
 ·refine sr <| la rfl <| en ?_
  refine WT.ret Tryz.func55 (resOk.one rfl) (fun w1 hw => ?_)
  cases h
  exact post_of_St hw
 refine WT.skip <| sq <| sr <| lf Fld_44_2 rfl rfl rfl <| lo T1_42 1 rfl <| lf Fld_44_2 rfl rfl rfl <| lo T1_42 0 rfl ?_
 obtain ⟨x2, hx2, h⟩ := bs h
 refine lp (p_call Fun_111 rfl (fun w1 hw => m_l_eqBindS_ok hw.fro N p0.Binds p1.Binds ph0_1 ph1_1 hx2)) rfl <| la rfl <| en ?_
 refine cdh rfl h (fun c3 h => ?_) (fun c3 h => ?_)
 ·refine sr <| la rfl <| en ?_
  refine WT.ret Tryz.func55 (resOk.one rfl) (fun w1 hw => ?_)
  cases h
  exact post_of_St hw
 refine WT.skip <| sr <| la rfl <| en ?_
 refine WT.ret Tryz.func55 (resOk.one rfl) (fun w1 hw => ?_)
 cases h
 exact post_of_St hw
theorem m_l_eqMatchS_ok {Φ : Hp} {w : World} (hΦ : In Φ w) (N : Nat) (p0 : (List TMatch)) (p1 : (List TMatch)) {pv0 pv1 : Value} {pG0 pG1 : List Nat} (ph0 : RSl RTMatch 3 Φ pG0 pv0 p0) (ph1 : RSl RTMatch 3 Φ pG1 pv1 p1) {r : Bool} (h : m_l_eqMatchS N p0 p1 = some r) :
  Calls Tryz.prog 19 [pv0, pv1].toArray w (Post (.bool r) w) := by
 refine enter Tryz.func19 rfl Tryz.ntmps19 rfl (St.start0 hΦ) ?_
 generalize hb0 : (⟨w, [], Φ⟩ : Base) = w0
 unfold m_l_eqMatchS at h
 refine sr <| la rfl <| en <| sq <| sr <| la rfl <| lq (q_lenR Sl_32 rfl rfl ph0) rfl <| la rfl <| lq (q_lenR Sl_32 rfl rfl ph1) rfl <| la rfl <| en ?_
 refine cdh rfl h (fun c1 h => ?_) (fun c1 h => ?_)
 ·refine sr <| la rfl <| en ?_
  refine WT.ret Tryz.func19 (resOk.one rfl) (fun w1 hw => ?_)
  subst hb0
  cases h
  exact post_of_St hw
 refine WT.skip <| sq <| sr <| la rfl <| en <| blk ?_
 refine loop_in (σ := Int) (fun s => [(0, pv0), (1, pv1), (5, .int .i64 s)]) (fun s => St w0 Φ [] []) (fun m s => m_l_eqMatchS_l1 N p0 p1 m s = some r) (0) N h ⟨rfl, rfl, rfl, trivial⟩ (fun w1 hw => (hw.sel (js := []) rfl).selO (js := []) rfl) (fun s hm => none_ne hm) (fun n1 ih1 s hm => ?_)
 revert hm; revert s; intro s1 hm
 have h : m_l_eqMatchS_l1 N p0 p1 (n1 + 1) s1 = some r := hm
 show WT _ _ [(0, pv0), (1, pv1), (5, .int .i64 s1)] (St w0 Φ [] [])
 unfold m_l_eqMatchS_l1 at h
 refine sq <| sr <| la rfl <| la rfl <| lq (q_lenR Sl_32 rfl rfl ph0) rfl <| la rfl <| en ?_
 refine cdh rfl h (fun c2 h => ?_) (fun c2 h => ?_)
 ·refine WT.skip <| sq <| blk <| sq <| WT.draw mixed (by kernel_rfl) (fun _ h => h.drew) <| qq (q_move rfl) rfl <| qq (q_move rfl) rfl ?_
  obtain ⟨x1, hx1, h⟩ := bs h
  obtain ⟨cs1, F1, -, g1, hb1, hs1, r1⟩ := ph0.el (idx_some hx1).2.2
  obtain ⟨v1, G1, v2, G2, rfl, rfl, h1, h2⟩ := r1
  refine qq (q_indexAddr Sl_32 rfl rfl ph0 hx1) rfl <| qq (q_loadN Tn_44 rfl (fun w1 hw => (g1.of_eq 0 3 rfl rfl : rg _ _ _ [.int .i64 x1.Rule, v1, v2]).rangeAt hw.fro) rfl) rfl <| qq (q_move rfl) rfl <| qq (q_move rfl) rfl ?_
  obtain ⟨x2, hx2, h⟩ := bs h
  obtain ⟨cs2, F2, -, g2, hb2, hs2, r2⟩ := ph1.el (idx_some hx2).2.2
  obtain ⟨v3, G3, v4, G4, rfl, rfl, h3, h4⟩ := r2
  refine qq (q_indexAddr Sl_32 rfl rfl ph1 hx2) rfl <| qq (q_loadN Tn_44 rfl (fun w1 hw => (g2.of_eq 0 3 rfl rfl : rg _ _ _ [.int .i64 x2.Rule, v3, v4]).rangeAt hw.fro) rfl) rfl ?_
  obtain ⟨x3, hx3, h⟩ := bs h
  refine qp (p_call Fun_55 rfl (fun w1 hw => m_l_eqMatch_ok hw.fro N x1 x2 h1 h2 h3 h4 hx3)) rfl <| qq (q_not rfl) rfl <| WQ.nil ?_
  refine cdh rfl h (fun c3 h => ?_) (fun c3 h => ?_)
  ·refine sr <| la rfl <| en ?_
   refine WT.ret Tryz.func19 (resOk.one rfl) (fun w1 hw => ?_)
   subst hb0
   cases h
   exact post_of_St hw
  refine WT.skip <| ib <| rgn <| la rfl <| la rfl <| la rfl <| en ?_
  exact lback (ih1 (IntKind.i64.wrap (s1 + 1)) h) ⟨rfl, rfl, rfl, trivial⟩ (fun w1 hw => (hw.sel (js := []) rfl).selO (js := []) rfl)
 refine xt rfl <| sr <| la rfl <| en ?_
 refine WT.ret Tryz.func19 (resOk.one rfl) (fun w1 hw => ?_)
 subst hb0
 cases h
 exact post_of_St hw
theorem m_l_eqValS_ok {Φ : Hp} {w : World} (hΦ : In Φ w) (N : Nat) (p0 : (List TVal)) (p1 : (List TVal)) {pv0 pv1 : Value} {pG0 pG1 : List Nat} (ph0 : RSl RTVal 3 Φ pG0 pv0 p0) (ph1 : RSl RTVal 3 Φ pG1 pv1 p1) {r : Bool} (h : m_l_eqValS N p0 p1 = some r) :
  Calls Tryz.prog 199 [pv0, pv1].toArray w (Post (.bool r) w) := by
 refine enter Tryz.func199 rfl Tryz.ntmps199 rfl (St.start0 hΦ) ?_
 generalize hb0 : (⟨w, [], Φ⟩ : Base) = w0
 unfold m_l_eqValS at h
 refine sr <| la rfl <| en <| sq <| sr <| la rfl <| lq (q_lenR Sl_121 rfl rfl ph0) rfl <| la rfl <| lq (q_lenR Sl_121 rfl rfl ph1) rfl <| la rfl <| en ?_
 refine cdh rfl h (fun c1 h => ?_) (fun c1 h => ?_)
 ·refine sr <| la rfl <| en ?_
  refine WT.ret Tryz.func199 (resOk.one rfl) (fun w1 hw => ?_)
  subst hb0
  cases h
  exact post_of_St hw
 refine WT.skip <| sq <| sr <| la rfl <| en <| blk ?_
 refine loop_in (σ := Int) (fun s => [(0, pv0), (1, pv1), (5, .int .i64 s)]) (fun s => St w0 Φ [] []) (fun m s => m_l_eqValS_l1 N p0 p1 m s = some r) (0) N h ⟨rfl, rfl, rfl, trivial⟩ (fun w1 hw => (hw.sel (js := []) rfl).selO (js := []) rfl) (fun s hm => none_ne hm) (fun n1 ih1 s hm => ?_)
 revert hm; revert s; intro s1 hm
 have h : m_l_eqValS_l1 N p0 p1 (n1 + 1) s1 = some r := hm
 show WT _ _ [(0, pv0), (1, pv1), (5, .int .i64 s1)] (St w0 Φ [] [])
 unfold m_l_eqValS_l1 at h
 refine sq <| sr <| la rfl <| la rfl <| lq (q_lenR Sl_121 rfl rfl ph0) rfl <| la rfl <| en ?_
 refine cdh rfl h (fun c2 h => ?_) (fun c2 h => ?_)
 ·refine WT.skip <| sq <| blk <| sq <| WT.draw mixed (by kernel_rfl) (fun _ h => h.drew) <| qq (q_move rfl) rfl <| qq (q_move rfl) rfl ?_
  obtain ⟨x1, hx1, h⟩ := bs h
  obtain ⟨cs1, F1, -, g1, hb1, hs1, r1⟩ := ph0.el (idx_some hx1).2.2
  obtain ⟨rfl, -⟩ := r1
  refine qq (q_indexAddr Sl_121 rfl rfl ph0 hx1) rfl <| qq (q_loadN Tn_85 rfl (fun w1 hw => (g1.of_eq 0 3 rfl rfl : rg _ _ _ [.int .i64 x1.K, .int .i64 x1.N, .string x1.S]).rangeAt hw.fro) rfl) rfl <| qq (q_move rfl) rfl <| qq (q_move rfl) rfl ?_
  obtain ⟨x2, hx2, h⟩ := bs h
  obtain ⟨cs2, F2, -, g2, hb2, hs2, r2⟩ := ph1.el (idx_some hx2).2.2
  obtain ⟨rfl, -⟩ := r2
  refine qq (q_indexAddr Sl_121 rfl rfl ph1 hx2) rfl <| qq (q_loadN Tn_85 rfl (fun w1 hw => (g2.of_eq 0 3 rfl rfl : rg _ _ _ [.int .i64 x2.K, .int .i64 x2.N, .string x2.S]).rangeAt hw.fro) rfl) rfl ?_
  obtain ⟨x3, hx3, h⟩ := bs h
  refine qp (p_call Fun_197 rfl (fun w1 hw => m_l_eqVal_ok hw.fro N x1 x2 hx3)) rfl <| qq (q_not rfl) rfl <| WQ.nil ?_
  refine cdh rfl h (fun c3 h => ?_) (fun c3 h => ?_)
  ·refine sr <| la rfl <| en ?_
   refine WT.ret Tryz.func199 (resOk.one rfl) (fun w1 hw => ?_)
   subst hb0
   cases h
   exact post_of_St hw
  refine WT.skip <| ib <| rgn <| la rfl <| la rfl <| la rfl <| en ?_
  exact lback (ih1 (IntKind.i64.wrap (s1 + 1)) h) ⟨rfl, rfl, rfl, trivial⟩ (fun w1 hw => (hw.sel (js := []) rfl).selO (js := []) rfl)
 refine xt rfl <| sr <| la rfl <| en ?_
 refine WT.ret Tryz.func199 (resOk.one rfl) (fun w1 hw => ?_)
 subst hb0
 cases h
 exact post_of_St hw
theorem m_l_eqFact_ok {Φ : Hp} {w : World} (hΦ : In Φ w) (N : Nat) (p0 : TFact) (p1 : TFact) {pv0_0 pv1_0 : Value} {pG0_0 pG1_0 : List Nat} (ph0_0 : RSl RTVal 3 Φ pG0_0 pv0_0 p0.Fields) (ph1_0 : RSl RTVal 3 Φ pG1_0 pv1_0 p1.Fields) {r : Bool} (h : m_l_eqFact N p0 p1 = some r) :
  Calls Tryz.prog 172 [.agg [.string p0.Kind, pv0_0].toArray, .agg [.string p1.Kind, pv1_0].toArray].toArray w (Post (.bool r) w) := by
 refine enter Tryz.func172 rfl Tryz.ntmps172 rfl (St.start0 hΦ) ?_
 unfold m_l_eqFact at h
 refine sr ?_
 refine ln (nb rfl) rfl (fun b_1 => ?_)
 refine ln (nb rfl) rfl (fun b_2 => ?_)
 refine la rfl <| en <| sq <| sr <| lf Fld_123_0 rfl rfl rfl <| lo T1_9 1 rfl <| lf Fld_123_0 rfl rfl rfl <| lo T1_9 0 rfl <| la rfl <| en ?_
 refine cdh rfl h (fun c1 h => ?_) (fun c1 h => ?_)
 ·refine sr <| la rfl <| en ?_
  refine WT.ret Tryz.func172 (resOk.one rfl) (fun w1 hw => ?_)
  cases h
  exact post_of_St hw
 refine WT.skip <| sq <| sr <| lf Fld_123_1 rfl rfl rfl <| lo T1_121 1 rfl <| lf Fld_123_1 rfl rfl rfl <| lo T1_121 0 rfl ?_
 obtain ⟨x1, hx1, h⟩ := bs h
 refine lp (p_call Fun_199 rfl (fun w1 hw => m_l_eqValS_ok hw.fro N p0.Fields p1.Fields ph0_0 ph1_0 hx1)) rfl <| la rfl <| en ?_
 refine cdh rfl h (fun c2 h => ?_) (fun c2 h => ?_)
 ·refine sr <| la rfl <| en ?_
  refine WT.ret Tryz.func172 (resOk.one rfl) (fun w1 hw => ?_)
  cases h
  exact post_of_St hw
 refine WT.skip <| sr <| la rfl <| en ?_
 refine WT.ret Tryz.func172 (resOk.one rfl) (fun w1 hw => ?_)
 cases h
 exact post_of_St hw
theorem m_l_eqItem_ok {Φ : Hp} {w : World} (hΦ : In Φ w) (N : Nat) (p0 : TItem) (p1 : TItem) {pv0_0 pv1_0 : Value} {pG0_0 pG1_0 : List Nat} (ph0_0 : RSl RTVal 3 Φ pG0_0 pv0_0 p0.F.Fields) (ph1_0 : RSl RTVal 3 Φ pG1_0 pv1_0 p1.F.Fields) {r : Bool} (h : m_l_eqItem N p0 p1 = some r) :
  Calls Tryz.prog 115 [.agg [.int .i64 p0.Id, .string p0.F.Kind, pv0_0].toArray, .agg [.int .i64 p1.Id, .string p1.F.Kind, pv1_0].toArray].toArray w (Post (.bool r) w) := by
 refine enter Tryz.func115 rfl Tryz.ntmps115 rfl (St.start0 hΦ) ?_
 unfold m_l_eqItem at h
 refine sr ?_
 refine ln (nb rfl) rfl (fun b_1 => ?_)
 refine ln (nb rfl) rfl (fun b_2 => ?_)
 refine la rfl <| en <| sq <| sr <| lf Fld_125_0 rfl rfl rfl <| lo T1_3 1 rfl <| lf Fld_125_0 rfl rfl rfl <| lo T1_3 0 rfl <| la rfl <| en ?_
 refine cdh rfl h (fun c1 h => ?_) (fun c1 h => ?_)
 ·refine sr <| la rfl <| en ?_
  refine WT.ret Tryz.func115 (resOk.one rfl) (fun w1 hw => ?_)
  cases h
  exact post_of_St hw
 refine WT.skip <| sq <| sr <| lf Fld_125_1 rfl rfl rfl <| ld2 Tn_123 1 rfl <| lf Fld_125_1 rfl rfl rfl <| ld2 Tn_123 0 rfl ?_
 obtain ⟨x1, hx1, h⟩ := bs h
 refine lp (p_call Fun_172 rfl (fun w1 hw => m_l_eqFact_ok hw.fro N p0.F p1.F ph0_0 ph1_0 hx1)) rfl <| la rfl <| en ?_
 refine cdh rfl h (fun c2 h => ?_) (fun c2 h => ?_)
 ·refine sr <| la rfl <| en ?_
  refine WT.ret Tryz.func115 (resOk.one rfl) (fun w1 hw => ?_)
  cases h
  exact post_of_St hw
 refine WT.skip <| sr <| la rfl <| en ?_
 refine WT.ret Tryz.func115 (resOk.one rfl) (fun w1 hw => ?_)
 cases h
 exact post_of_St hw
theorem m_l_eqItemS_ok {Φ : Hp} {w : World} (hΦ : In Φ w) (N : Nat) (p0 : (List TItem)) (p1 : (List TItem)) {pv0 pv1 : Value} {pG0 pG1 : List Nat} (ph0 : RSl RTItem 3 Φ pG0 pv0 p0) (ph1 : RSl RTItem 3 Φ pG1 pv1 p1) {r : Bool} (h : m_l_eqItemS N p0 p1 = some r) :
  Calls Tryz.prog 59 [pv0, pv1].toArray w (Post (.bool r) w) := by
 refine enter Tryz.func59 rfl Tryz.ntmps59 rfl (St.start0 hΦ) ?_
 generalize hb0 : (⟨w, [], Φ⟩ : Base) = w0
 unfold m_l_eqItemS at h
 refine sr <| la rfl <| en <| sq <| sr <| la rfl <| lq (q_lenR Sl_27 rfl rfl ph0) rfl <| la rfl <| lq (q_lenR Sl_27 rfl rfl ph1) rfl <| la rfl <| en ?_
 refine cdh rfl h (fun c1 h => ?_) (fun c1 h => ?_)
 ·refine sr <| la rfl <| en ?_
  refine WT.ret Tryz.func59 (resOk.one rfl) (fun w1 hw => ?_)
  subst hb0
  cases h
  exact post_of_St hw
 refine WT.skip <| sq <| sr <| la rfl <| en <| blk ?_
 refine loop_in (σ := Int) (fun s => [(0, pv0), (1, pv1), (5, .int .i64 s)]) (fun s => St w0 Φ [] []) (fun m s => m_l_eqItemS_l1 N p0 p1 m s = some r) (0) N h ⟨rfl, rfl, rfl, trivial⟩ (fun w1 hw => (hw.sel (js := []) rfl).selO (js := []) rfl) (fun s hm => none_ne hm) (fun n1 ih1 s hm => ?_)
 revert hm; revert s; intro s1 hm
 have h : m_l_eqItemS_l1 N p0 p1 (n1 + 1) s1 = some r := hm
 show WT _ _ [(0, pv0), (1, pv1), (5, .int .i64 s1)] (St w0 Φ [] [])
 unfold m_l_eqItemS_l1 at h
 refine sq <| sr <| la rfl <| la rfl <| lq (q_lenR Sl_27 rfl rfl ph0) rfl <| la rfl <| en ?_
 refine cdh rfl h (fun c2 h => ?_) (fun c2 h => ?_)
 ·refine WT.skip <| sq <| blk <| sq <| WT.draw mixed (by kernel_rfl) (fun _ h => h.drew) <| qq (q_move rfl) rfl <| qq (q_move rfl) rfl ?_
  obtain ⟨x1, hx1, h⟩ := bs h
  obtain ⟨cs1, F1, -, g1, hb1, hs1, r1⟩ := ph0.el (idx_some hx1).2.2
  obtain ⟨v1, G1, rfl, hq1, h1⟩ := r1
  obtain rfl := hq1.symm
  refine qq (q_indexAddr Sl_27 rfl rfl ph0 hx1) rfl <| qq (q_loadN Tn_125 rfl (fun w1 hw => (g1.of_eq 0 3 rfl rfl : rg _ _ _ [.int .i64 x1.Id, .string x1.F.Kind, v1]).rangeAt hw.fro) rfl) rfl <| qq (q_move rfl) rfl <| qq (q_move rfl) rfl ?_
  obtain ⟨x2, hx2, h⟩ := bs h
  obtain ⟨cs2, F2, -, g2, hb2, hs2, r2⟩ := ph1.el (idx_some hx2).2.2
  obtain ⟨v2, G2, rfl, hq2, h2⟩ := r2
  obtain rfl := hq2.symm
  refine qq (q_indexAddr Sl_27 rfl rfl ph1 hx2) rfl <| qq (q_loadN Tn_125 rfl (fun w1 hw => (g2.of_eq 0 3 rfl rfl : rg _ _ _ [.int .i64 x2.Id, .string x2.F.Kind, v2]).rangeAt hw.fro) rfl) rfl ?_
  obtain ⟨x3, hx3, h⟩ := bs h
  refine qp (p_call Fun_115 rfl (fun w1 hw => m_l_eqItem_ok hw.fro N x1 x2 h1 h2 hx3)) rfl <| qq (q_not rfl) rfl <| WQ.nil ?_
  refine cdh rfl h (fun c3 h => ?_) (fun c3 h => ?_)
  ·refine sr <| la rfl <| en ?_
   refine WT.ret Tryz.func59 (resOk.one rfl) (fun w1 hw => ?_)
   subst hb0
   cases h
   exact post_of_St hw
  refine WT.skip <| ib <| rgn <| la rfl <| la rfl <| la rfl <| en ?_
  exact lback (ih1 (IntKind.i64.wrap (s1 + 1)) h) ⟨rfl, rfl, rfl, trivial⟩ (fun w1 hw => (hw.sel (js := []) rfl).selO (js := []) rfl)
 refine xt rfl <| sr <| la rfl <| en ?_
 refine WT.ret Tryz.func59 (resOk.one rfl) (fun w1 hw => ?_)
 subst hb0
 cases h
 exact post_of_St hw
theorem m_l_eqStore_ok {Φ : Hp} {w : World} (hΦ : In Φ w) (N : Nat) (p0 : TStore) (p1 : TStore) {pv0_0 pv1_0 : Value} {pG0_0 pG1_0 : List Nat} (ph0_0 : RSl RTItem 3 Φ pG0_0 pv0_0 p0.Items) (ph1_0 : RSl RTItem 3 Φ pG1_0 pv1_0 p1.Items) {r : Bool} (h : m_l_eqStore N p0 p1 = some r) :
  Calls Tryz.prog 21 [.agg [pv0_0, .int .i64 p0.Next].toArray, .agg [pv1_0, .int .i64 p1.Next].toArray].toArray w (Post (.bool r) w) := by
 refine enter Tryz.func21 rfl Tryz.ntmps21 rfl (St.start0 hΦ) ?_
 unfold m_l_eqStore at h
 refine sr ?_
 refine ln (nb rfl) rfl (fun b_1 => ?_)
 refine ln (nb rfl) rfl (fun b_2 => ?_)
 refine la rfl <| en <| sq <| sr <| lf Fld_29_0 rfl rfl rfl <| lo T1_27 1 rfl <| lf Fld_29_0 rfl rfl rfl <| lo T1_27 0 rfl ?_
 obtain ⟨x1, hx1, h⟩ := bs h
 refine lp (p_call Fun_59 rfl (fun w1 hw => m_l_eqItemS_ok hw.fro N p0.Items p1.Items ph0_0 ph1_0 hx1)) rfl <| la rfl <| en ?_
 refine cdh rfl h (fun c1 h => ?_) (fun c1 h => ?_)
 ·refine sr <| la rfl <| en ?_
  refine WT.ret Tryz.func21 (resOk.one rfl) (fun w1 hw => ?_)
  cases h
  exact post_of_St hw
 refine WT.skip <| sq <| sr <| lf Fld_29_1 rfl rfl rfl <| lo T1_3 1 rfl <| lf Fld_29_1 rfl rfl rfl <| lo T1_3 0 rfl <| la rfl <| en ?_
 refine cdh rfl h (fun c2 h => ?_) (fun c2 h => ?_)
 ·refine sr <| la rfl <| en ?_
  refine WT.ret Tryz.func21 (resOk.one rfl) (fun w1 hw => ?_)
  cases h
  exact post_of_St hw
 refine WT.skip <| sr <| la rfl <| en ?_
 refine WT.ret Tryz.func21 (resOk.one rfl) (fun w1 hw => ?_)
 cases h
 exact post_of_St hw
theorem m_l_markText_ok {Φ : Hp} {w : World} (hΦ : In Φ w) (N : Nat) (p0 : Int)   {r : ByteArray} (h : m_l_markText N p0 = some r) :
  Calls Tryz.prog 116 [.int .i64 p0].toArray w (Post (.string r) w) := by
 refine enter Tryz.func116 rfl Tryz.ntmps116 rfl (St.start0 hΦ) ?_
 generalize hb0 : (⟨w, [], Φ⟩ : Base) = w0
 unfold m_l_markText at h
 refine sr <| la rfl <| en <| sq <| sr <| la rfl <| la rfl <| en ?_
 refine cdh rfl h (fun c1 h => ?_) (fun c1 h => ?_)
 ·refine sr <| la rfl <| en ?_
  refine WT.ret Tryz.func116 (resOk.one rfl) (fun w1 hw => ?_)
  subst hb0
  cases h
  exact post_of_St hw
 refine WT.skip <| sr <| la rfl <| en <| sq <| blk ?_
 refine loop_in (σ := Hp × Int × ByteArray) (fun s => [(0, .int .i64 s.2.1), (3, .string s.2.2)]) (fun s => St w0 s.1 [] []) (fun m s => m_l_markText_l1 N m s.2.1 s.2.2 = some r) (Φ, p0, (⟨#[]⟩ : ByteArray)) N h ⟨rfl, rfl, trivial⟩ (fun w1 hw => (hw.sel (js := []) rfl).selO (js := []) rfl) (fun s hm => none_ne hm) (fun n1 ih1 s hm => ?_)
 obtain ⟨Φ_1, s1, s2⟩ := s
 have h : m_l_markText_l1 N (n1 + 1) s1 s2 = some r := hm
 show WT _ _ [(0, .int .i64 s1), (3, .string s2)] (St w0 Φ_1 [] [])
 unfold m_l_markText_l1 at h
 refine sq <| sr <| la rfl <| la rfl <| en ?_
 refine cdh rfl h (fun c2 h => ?_) (fun c2 h => ?_)
 ·refine WT.skip <| blk <| sr <| la rfl <| lq (q_rem rfl rfl (by decide)) rfl <| la rfl <| lq (q_convI Ik_3 Ik_5 rfl) rfl ?_
  have rc1 : RC (RI .u8) 1 Φ_1 ([[]] : List (List Nat)) [.int .u8 (IntKind.u8.wrap (IntKind.i64.wrap (48 + (s1.tmod 10))))] ([(IntKind.u8.wrap (IntKind.i64.wrap (48 + (s1.tmod 10))))] : List Int) := RC.cons (c := [.int .u8 (IntKind.u8.wrap (IntKind.i64.wrap (48 + (s1.tmod 10))))]) (cells := []) ⟨rfl, rfl⟩ rfl (RC.nil _ _ _)
  refine le' (e_lit (vs := [(0, .int .u8 (IntKind.u8.wrap (IntKind.i64.wrap (48 + (s1.tmod 10)))))]) (C := #[.int .u8 (IntKind.u8.wrap (IntKind.i64.wrap (48 + (s1.tmod 10))))]) RI.lasts Sl_22 Zr_5 rfl rfl rfl rfl (fill_made MC_5_1 (fill_cons (C' := [.int .u8 (IntKind.u8.wrap (IntKind.i64.wrap (48 + (s1.tmod 10))))]) rfl rfl rfl rfl rfl (fill_nil))) rfl rc1 rfl (by simpa using Kw.nil)) rfl (fun v1 Φ_2 D1 q1 => ?_)
  obtain ⟨fr1, h1⟩ := q1
  replace h1 : OSl (RI .u8) 5 1 Φ_2 [] v1 ([(IntKind.u8.wrap (IntKind.i64.wrap (48 + (s1.tmod 10))))] : List Int) := by simpa using h1
  refine lq (q_convB Sl_22 Ik_5 Str_9 rfl h1.rsl) rfl <| la rfl ?_
  obtain ⟨z1, hz1, h⟩ := bs h
  refine lq (q_cat rfl rfl hz1) rfl <| la rfl <| en <| rgn <| la rfl <| lq (q_quo rfl rfl (by decide)) rfl <| la rfl <| en <| ib ?_
  exact lback (ih1 (Φ_2, (IntKind.i64.wrap (s1.tdiv 10)), z1) h) ⟨rfl, rfl, trivial⟩ (fun w1 hw => (hw.sel (js := []) rfl).selO (js := []) rfl)
 refine xt rfl <| sr <| la rfl ?_
 obtain ⟨z2, hz2, h⟩ := bs h
 refine lq (q_cat rfl rfl hz2) rfl <| la rfl <| en ?_
 refine WT.ret Tryz.func116 (resOk.one rfl) (fun w1 hw => ?_)
 subst hb0
 cases h
 exact post_of_St hw
theorem m_l_markValS_ok {Φ : Hp} {w : World} (hΦ : In Φ w) (N : Nat) (p0 : (List TVal)) (p1 : Int) {pv0 : Value} (ph0 : OSl RTVal 85 3 Φ [] pv0 p0) (hB : [ob pv0].flatten.Nodup) (hlt : ∀ k ∈ [ob pv0].flatten, k < w.heap.size) {r : Int × (List TVal)} (h : m_l_markValS N p0 p1 = some r) :
  Calls Tryz.prog 119 [pv0, .int .i64 p1].toArray w (PostG Φ w [ob pv0].flatten (fun Φ' Fs v => v = .int .i64 r.1 ∧ Fs = [ob pv0] ∧ OSl RTVal 85 3 Φ' [] pv0 r.2)) := by
 refine enter Tryz.func119 rfl Tryz.ntmps119 rfl (St.start hΦ [ob pv0] hB hlt) ?_
 generalize hb0 : (⟨w, [ob pv0].flatten, Φ⟩ : Base) = w0
 unfold m_l_markValS at h
 refine sr <| la rfl <| en <| sq <| sr <| la rfl <| en <| blk ?_
 refine loop_in (σ := Hp × (List TVal) × Int × Int) (fun s => [(0, pv0), (1, .int .i64 s.2.2.1), (5, .int .i64 s.2.2.2)]) (fun s => St w0 s.1 [] [ob pv0]) (fun m s => m_l_markValS_l1 N m s.2.1 s.2.2.1 s.2.2.2 = some r ∧ (OSl RTVal 85 3 s.1 [] pv0 s.2.1)) (Φ, p0, p1, 0) N ⟨h, ph0⟩ ⟨rfl, rfl, rfl, trivial⟩ (fun w1 hw => (hw.sel (js := [0]) rfl).selO (js := []) rfl) (fun s hm => none_ne hm.1) (fun n1 ih1 s hm => ?_)
 obtain ⟨Φ_1, s1, s2, s3⟩ := s
 obtain ⟨h, k1⟩ := hm
 dsimp only at h k1 ⊢
 unfold m_l_markValS_l1 at h
 refine sq <| sr <| la rfl <| la rfl <| lq (q_lenR Sl_121 rfl rfl k1.rsl) rfl <| la rfl <| en ?_
 refine cdh rfl h (fun c1 h => ?_) (fun c1 h => ?_)
 ·refine WT.skip <| sq <| blk <| sr <| la rfl <| la rfl <| la rfl ?_
  obtain ⟨x1, hx1, h⟩ := bs h
  obtain ⟨cs1, F1, h1, r1⟩ := k1.focusF RTVal.flat hx1
  obtain ⟨rfl, -⟩ := r1
  refine lq (q_indexAddrH Sl_121 rfl rfl h1 hx1) rfl <| lf Fld_85_0 rfl rfl rfl ?_
  refine lu (u_setH (js := [0]) (Rr := []) (o := 0) (vs := [.int .i64 s2]) (cs' := [.int .i64 s2, .int .i64 x1.N, .string x1.S]) RTVal.lasts Sz_3 rfl rfl rfl rfl ⟨rfl, trivial⟩ rfl h1 rfl rfl (fun ap => (Dj.nil _))) rfl (fun Φ_2 D2 q1 => ?_)
  obtain ⟨⟨ap1, fr1⟩, h2⟩ := q1
  refine en <| sr <| la rfl <| la rfl <| la rfl <| en <| sr <| la rfl <| la rfl <| la rfl <| lq (q_indexAddrH Sl_121 rfl rfl h2 hx1) rfl <| lf Fld_85_1 rfl rfl rfl ?_
  refine lu (u_setH (js := [0]) (Rr := []) (o := 1) (vs := [.int .i64 (IntKind.i64.wrap (s2 + 1))]) (cs' := [.int .i64 s2, .int .i64 (IntKind.i64.wrap (s2 + 1)), .string x1.S]) RTVal.lasts Sz_3 rfl rfl rfl rfl ⟨rfl, trivial⟩ rfl h2 rfl rfl (fun ap => (Dj.nil _))) rfl (fun Φ_3 D3 q2 => ?_)
  obtain ⟨⟨ap2, fr2⟩, h3⟩ := q2
  refine en <| sr <| la rfl <| la rfl <| la rfl <| en <| sr <| la rfl <| la rfl <| la rfl ?_
  obtain ⟨x2, hx2, h⟩ := bs h
  refine lp (p_call Fun_116 rfl (fun w1 hw => m_l_markText_ok hw.fro N (IntKind.i64.wrap ((IntKind.i64.wrap (s2 + 1)) + 1)) hx2)) rfl <| lq (q_indexAddrH Sl_121 rfl rfl h3 hx1) rfl <| lf Fld_85_2 rfl rfl rfl ?_
  refine lu (u_setH (js := [0]) (Rr := []) (o := 2) (vs := [.string x2]) (cs' := [.int .i64 s2, .int .i64 (IntKind.i64.wrap (s2 + 1)), .string x2]) RTVal.lasts Sz_9 rfl rfl rfl rfl ⟨rfl, trivial⟩ rfl h3 rfl rfl (fun ap => (Dj.nil _))) rfl (fun Φ_4 D4 q3 => ?_)
  obtain ⟨⟨ap3, fr3⟩, h4⟩ := q3
  refine en <| rgn <| la rfl <| la rfl <| la rfl <| en <| ib <| rgn <| la rfl <| la rfl <| la rfl <| en ?_
  have h5 := h4.unfocusF RTVal.flat (cs := [.int .i64 s2, .int .i64 (IntKind.i64.wrap (s2 + 1)), .string x2]) (x' := (⟨s2, IntKind.i64.wrap (s2 + 1), x2⟩ : TVal)) ⟨rfl, rfl⟩
  exact lback (ih1 (Φ_4, (s1.set s3.toNat (⟨s2, IntKind.i64.wrap (s2 + 1), x2⟩ : TVal)), IntKind.i64.wrap ((IntKind.i64.wrap ((IntKind.i64.wrap (s2 + 1)) + 1)) + 1), IntKind.i64.wrap (s3 + 1)) ⟨h, h5⟩) ⟨rfl, rfl, rfl, trivial⟩ (fun w1 hw => (hw.sel (js := [0]) rfl).selO (js := []) rfl)
 refine xt rfl <| sr <| la rfl <| la rfl <| en ?_
 refine WT.ret Tryz.func119 (resOk.one rfl) (fun w1 hw => ?_)
 subst hb0
 cases h
 refine postG_of_St (js := [0]) hw rfl ⟨rfl, rfl, k1⟩
theorem m_l_markItemS_ok {Φ : Hp} {w : World} (hΦ : In Φ w) (N : Nat) (p0 : (List TItem)) (p1 : Int) {pv0 : Value} {pD0 : List Nat} (ph0 : OSl OTItem 125 3 Φ pD0 pv0 p0) (hB : [ob pv0, pD0].flatten.Nodup) (hlt : ∀ k ∈ [ob pv0, pD0].flatten, k < w.heap.size) {r : Int × (List TItem)} (h : m_l_markItemS N p0 p1 = some r) :
  Calls Tryz.prog 63 [pv0, .int .i64 p1].toArray w (PostG Φ w [ob pv0, pD0].flatten (fun Φ' Fs v => ∃ (Do_0_0 : List Nat), v = .int .i64 r.1 ∧ Fs = [ob pv0, Do_0_0] ∧ OSl OTItem 125 3 Φ' Do_0_0 pv0 r.2)) := by
 refine enter Tryz.func63 rfl Tryz.ntmps63 rfl (St.start hΦ [ob pv0, pD0] hB hlt) ?_
 generalize hb0 : (⟨w, [ob pv0, pD0].flatten, Φ⟩ : Base) = w0
 unfold m_l_markItemS at h
 refine sr <| la rfl <| en <| sq <| sr <| la rfl <| en <| blk ?_
 refine loop_in (σ := Hp × (List TItem) × List Nat × Int × Int) (fun s => [(0, pv0), (1, .int .i64 s.2.2.2.1), (5, .int .i64 s.2.2.2.2)]) (fun s => St w0 s.1 [] [ob pv0, s.2.2.1]) (fun m s => m_l_markItemS_l1 N m s.2.1 s.2.2.2.1 s.2.2.2.2 = some r ∧ (OSl OTItem 125 3 s.1 s.2.2.1 pv0 s.2.1)) (Φ, p0, pD0, p1, 0) N ⟨h, ph0⟩ ⟨rfl, rfl, rfl, trivial⟩ (fun w1 hw => (hw.sel (js := [0, 0]) rfl).selO (js := []) rfl) (fun s hm => none_ne hm.1) (fun n1 ih1 s hm => ?_)
 obtain ⟨Φ_1, s1, D1, s2, s3⟩ := s
 obtain ⟨h, k1⟩ := hm
 dsimp only at h k1 ⊢
 unfold m_l_markItemS_l1 at h
 refine sq <| sr <| la rfl <| la rfl <| lq (q_lenR Sl_27 rfl rfl (k1.rslG OTItem.gives)) rfl <| la rfl <| en ?_
 refine cdh rfl h (fun c1 h => ?_) (fun c1 h => ?_)
 ·refine WT.skip <| sq <| blk <| sr <| la rfl <| la rfl <| la rfl ?_
  obtain ⟨x1, hx1, h⟩ := bs h
  obtain ⟨cs1, F1, D2, h1, r1, kf1, sp1⟩ := k1.focus hx1
  obtain ⟨v1, rfl, rfl, h2⟩ := r1
  refine WL.conv (S' := St w0 Φ_1 [] [ob v1, D2, ob pv0]) (fun w1 hw => hw.re (js := [1]) (Bs := [ob v1, D2]) rfl (by simpa [List.append_assoc] using sp1)) <| lq (q_indexAddrH Sl_27 rfl rfl h1 hx1) rfl <| lf Fld_125_0 rfl rfl rfl ?_
  refine lu (u_setH (js := [2]) (Rr := [ob v1, D2]) (o := 0) (vs := [.int .i64 s2]) (cs' := [.int .i64 s2, .string x1.F.Kind, v1]) OTItem.lasts Sz_3 rfl rfl rfl rfl ⟨rfl, trivial⟩ rfl h1 rfl rfl (fun ap => (ap.r (i := 1) rfl))) rfl (fun Φ_2 D3 q1 => ?_)
  obtain ⟨⟨ap1, fr1⟩, h3⟩ := q1
  replace h2 := h2.frame RTVal.lasts fr1 (ap1.r (i := 0) rfl) (Dj.nil _)
  refine en <| sr <| la rfl <| la rfl <| la rfl <| en <| sr <| la rfl <| la rfl <| la rfl ?_
  obtain ⟨x2, hx2, h⟩ := bs h
  refine lp (p_call Fun_116 rfl (fun w1 hw => m_l_markText_ok hw.fro N (IntKind.i64.wrap (s2 + 1)) hx2)) rfl <| lq (q_indexAddrH Sl_27 rfl rfl h3 hx1) rfl <| lf Fld_125_1 rfl rfl rfl <| lf Fld_123_0 rfl rfl rfl ?_
  refine lu (u_setH (js := [0]) (Rr := [ob v1, D2]) (o := 1) (vs := [.string x2]) (cs' := [.int .i64 s2, .string x2, v1]) OTItem.lasts Sz_9 rfl rfl rfl rfl ⟨rfl, trivial⟩ rfl h3 rfl rfl (fun ap => (ap.r (i := 1) rfl))) rfl (fun Φ_3 D4 q2 => ?_)
  obtain ⟨⟨ap2, fr2⟩, h4⟩ := q2
  replace h2 := h2.frame RTVal.lasts fr2 (ap2.r (i := 0) rfl) (Dj.nil _)
  refine en <| sr <| la rfl <| la rfl <| la rfl <| en <| rgn <| la rfl <| la rfl <| lq (q_indexAddrH Sl_27 rfl rfl h4 hx1) rfl <| lf Fld_125_1 rfl rfl rfl <| lf Fld_123_1 rfl rfl rfl <| lq (q_load1 T1_121 rfl (fun w1 hw => (h4.rg.of_eq 2 1 (by omega) rfl : rg _ _ _ [v1]).rangeAt hw.fro)) rfl <| la rfl ?_
  obtain ⟨x3, hx3, h⟩ := bs h
  refine lc (k_call (js := [1]) (R := [ob pv0, D2]) Fun_119 rfl rfl (fun w1 hw ap hl => m_l_markValS_ok hw.fro N x1.F.Fields (IntKind.i64.wrap ((IntKind.i64.wrap (s2 + 1)) + 1)) h2 ap.nd hl hx3)) rfl (fun v2 Φ_4 F2 q3 => ?_)
  obtain ⟨ap3, fr3, rfl, rfl, h5⟩ := q3
  replace h4 := h4.frame OTItem.lasts fr3 (ap3.r (i := 0) rfl) (ap3.r (i := 1) rfl)
  refine la rfl <| en <| ib <| rgn <| la rfl <| la rfl <| la rfl <| en ?_
  have r2 : OTItem Φ_4 _ [.int .i64 s2, .string x2, v1] (⟨s2, (⟨x2, x3.2⟩ : TFact)⟩ : TItem) := ⟨v1, rfl, rfl, h5⟩
  obtain ⟨D5, h6, sp2⟩ := h4.unfocus r2 (OTItem.knows _ _ _ _ r2)
  refine WT.conv (S' := St w0 Φ_4 [] [D5, ob pv0]) (fun w1 hw => hw.merge (js := [0, 1]) rfl (by simpa [List.append_assoc, ob_nil] using sp2)) ?_
  exact lback (ih1 (Φ_4, (s1.set s3.toNat (⟨s2, (⟨x2, x3.2⟩ : TFact)⟩ : TItem)), D5, x3.1, IntKind.i64.wrap (s3 + 1)) ⟨h, h6⟩) ⟨rfl, rfl, rfl, trivial⟩ (fun w1 hw => (hw.sel (js := [1, 0]) rfl).selO (js := []) rfl)
 refine xt rfl <| sr <| la rfl <| la rfl <| en ?_
 refine WT.ret Tryz.func63 (resOk.one rfl) (fun w1 hw => ?_)
 subst hb0
 cases h
 refine postG_of_St (js := [0, 0]) hw rfl ⟨D1, rfl, rfl, k1⟩
theorem m_l_markStore_ok {Φ : Hp} {w : World} (hΦ : In Φ w) (N : Nat) (p0 : TStore) (p1 : Int) {pv0_0 : Value} {pD0_0 : List Nat} (ph0_0 : OSl OTItem 125 3 Φ pD0_0 pv0_0 p0.Items) (hB : [ob pv0_0, pD0_0].flatten.Nodup) (hlt : ∀ k ∈ [ob pv0_0, pD0_0].flatten, k < w.heap.size) {r : Int × (List TItem)} (h : m_l_markStore N p0 p1 = some r) :
  Calls Tryz.prog 23 [.agg [pv0_0, .int .i64 p0.Next].toArray, .int .i64 p1].toArray w (PostG Φ w [ob pv0_0, pD0_0].flatten (fun Φ' Fs v => ∃ (Do_0_0 : List Nat), v = .int .i64 r.1 ∧ Fs = [ob pv0_0, Do_0_0] ∧ OSl OTItem 125 3 Φ' Do_0_0 pv0_0 r.2)) := by
 refine enter Tryz.func23 rfl Tryz.ntmps23 rfl (St.start hΦ [ob pv0_0, pD0_0] hB hlt) ?_
 unfold m_l_markStore at h
 refine sr ?_
 refine ln (nb rfl) rfl (fun b_1 => ?_)
 refine la rfl <| en <| sr <| lf Fld_29_0 rfl rfl rfl <| lo T1_27 0 rfl <| la rfl ?_
 obtain ⟨x1, hx1, h⟩ := bs h
 refine lc (k_call (js := [0, 0]) (R := []) Fun_63 rfl rfl (fun w1 hw ap hl => m_l_markItemS_ok hw.fro N p0.Items p1 ph0_0 ap.nd hl hx1)) rfl (fun v1 Φ_1 F1 q1 => ?_)
 obtain ⟨ap1, fr1, D1, rfl, rfl, h1⟩ := q1
 refine la rfl <| en <| sr <| la rfl <| la rfl <| en ?_
 refine WT.ret Tryz.func23 (resOk.one rfl) (fun w1 hw => ?_)
 cases h
 refine postG_of_St (js := [0, 0]) hw rfl ⟨D1, rfl, rfl, h1⟩
theorem m_l_markIntS_ok {Φ : Hp} {w : World} (hΦ : In Φ w) (N : Nat) (p0 : (List Int)) (p1 : Int) {pv0 : Value} (ph0 : OSl (RI .i64) 3 1 Φ [] pv0 p0) (hB : [ob pv0].flatten.Nodup) (hlt : ∀ k ∈ [ob pv0].flatten, k < w.heap.size) {r : Int × (List Int)} (h : m_l_markIntS N p0 p1 = some r) :
  Calls Tryz.prog 64 [pv0, .int .i64 p1].toArray w (PostG Φ w [ob pv0].flatten (fun Φ' Fs v => v = .int .i64 r.1 ∧ Fs = [ob pv0] ∧ OSl (RI .i64) 3 1 Φ' [] pv0 r.2)) := by
 refine enter Tryz.func64 rfl Tryz.ntmps64 rfl (St.start hΦ [ob pv0] hB hlt) ?_
 generalize hb0 : (⟨w, [ob pv0].flatten, Φ⟩ : Base) = w0
 unfold m_l_markIntS at h
 refine sr <| la rfl <| en <| sq <| sr <| la rfl <| en <| blk ?_
 refine loop_in (σ := Hp × (List Int) × Int × Int) (fun s => [(0, pv0), (1, .int .i64 s.2.2.1), (5, .int .i64 s.2.2.2)]) (fun s => St w0 s.1 [] [ob pv0]) (fun m s => m_l_markIntS_l1 N m s.2.1 s.2.2.1 s.2.2.2 = some r ∧ (OSl (RI .i64) 3 1 s.1 [] pv0 s.2.1)) (Φ, p0, p1, 0) N ⟨h, ph0⟩ ⟨rfl, rfl, rfl, trivial⟩ (fun w1 hw => (hw.sel (js := [0]) rfl).selO (js := []) rfl) (fun s hm => none_ne hm.1) (fun n1 ih1 s hm => ?_)
 obtain ⟨Φ_1, s1, s2, s3⟩ := s
 obtain ⟨h, k1⟩ := hm
 dsimp only at h k1 ⊢
 unfold m_l_markIntS_l1 at h
 refine sq <| sr <| la rfl <| la rfl <| lq (q_lenR Sl_41 rfl rfl k1.rsl) rfl <| la rfl <| en ?_
 refine cdh rfl h (fun c1 h => ?_) (fun c1 h => ?_)
 ·refine WT.skip <| sq <| blk <| sr <| la rfl <| la rfl <| la rfl ?_
  obtain ⟨x1, hx1, h⟩ := bs h
  obtain ⟨cs1, F1, -, g1, hb1, hs1, r1⟩ := k1.elS (idx_some hx1).2.2
  obtain ⟨rfl, -⟩ := r1
  refine lq (q_indexAddr Sl_41 rfl rfl k1.rsl hx1) rfl ?_
  refine lu (u_setF (js := [0]) (Rr := []) (vs := [.int .i64 s2]) (x' := s2) RI.lasts RI.flat Sz_3 rfl rfl rfl rfl ⟨rfl, trivial⟩ rfl k1 (idx_lt hx1) ⟨rfl, rfl⟩) rfl (fun Φ_2 D1 q1 => ?_)
  obtain ⟨⟨ap1, fr1⟩, h1⟩ := q1
  refine en <| rgn <| la rfl <| la rfl <| la rfl <| en <| ib <| rgn <| la rfl <| la rfl <| la rfl <| en ?_
  exact lback (ih1 (Φ_2, (s1.set s3.toNat s2), IntKind.i64.wrap (s2 + 1), IntKind.i64.wrap (s3 + 1)) ⟨h, h1⟩) ⟨rfl, rfl, rfl, trivial⟩ (fun w1 hw => (hw.sel (js := [0]) rfl).selO (js := []) rfl)
 refine xt rfl <| sr <| la rfl <| la rfl <| en ?_
 refine WT.ret Tryz.func64 (resOk.one rfl) (fun w1 hw => ?_)
 subst hb0
 cases h
 refine postG_of_St (js := [0]) hw rfl ⟨rfl, rfl, k1⟩
theorem m_l_markBindS_ok {Φ : Hp} {w : World} (hΦ : In Φ w) (N : Nat) (p0 : (List TBind)) (p1 : Int) {pv0 : Value} (ph0 : OSl RTBind 87 4 Φ [] pv0 p0) (hB : [ob pv0].flatten.Nodup) (hlt : ∀ k ∈ [ob pv0].flatten, k < w.heap.size) {r : Int × (List TBind)} (h : m_l_markBindS N p0 p1 = some r) :
  Calls Tryz.prog 65 [pv0, .int .i64 p1].toArray w (PostG Φ w [ob pv0].flatten (fun Φ' Fs v => v = .int .i64 r.1 ∧ Fs = [ob pv0] ∧ OSl RTBind 87 4 Φ' [] pv0 r.2)) := by
 refine enter Tryz.func65 rfl Tryz.ntmps65 rfl (St.start hΦ [ob pv0] hB hlt) ?_
 generalize hb0 : (⟨w, [ob pv0].flatten, Φ⟩ : Base) = w0
 unfold m_l_markBindS at h
 refine sr <| la rfl <| en <| sq <| sr <| la rfl <| en <| blk ?_
 refine loop_in (σ := Hp × (List TBind) × Int × Int) (fun s => [(0, pv0), (1, .int .i64 s.2.2.1), (5, .int .i64 s.2.2.2)]) (fun s => St w0 s.1 [] [ob pv0]) (fun m s => m_l_markBindS_l1 N m s.2.1 s.2.2.1 s.2.2.2 = some r ∧ (OSl RTBind 87 4 s.1 [] pv0 s.2.1)) (Φ, p0, p1, 0) N ⟨h, ph0⟩ ⟨rfl, rfl, rfl, trivial⟩ (fun w1 hw => (hw.sel (js := [0]) rfl).selO (js := []) rfl) (fun s hm => none_ne hm.1) (fun n1 ih1 s hm => ?_)
 obtain ⟨Φ_1, s1, s2, s3⟩ := s
 obtain ⟨h, k1⟩ := hm
 dsimp only at h k1 ⊢
 unfold m_l_markBindS_l1 at h
 refine sq <| sr <| la rfl <| la rfl <| lq (q_lenR Sl_42 rfl rfl k1.rsl) rfl <| la rfl <| en ?_
 refine cdh rfl h (fun c1 h => ?_) (fun c1 h => ?_)
 ·refine WT.skip <| sq <| blk <| sr <| la rfl <| la rfl <| la rfl ?_
  obtain ⟨x1, hx1, h⟩ := bs h
  refine lp (p_call Fun_116 rfl (fun w1 hw => m_l_markText_ok hw.fro N s2 hx1)) rfl ?_
  obtain ⟨x2, hx2, h⟩ := bs h
  obtain ⟨cs1, F1, h1, r1⟩ := k1.focusF RTBind.flat hx2
  obtain ⟨rfl, -⟩ := r1
  refine lq (q_indexAddrH Sl_42 rfl rfl h1 hx2) rfl <| lf Fld_87_0 rfl rfl rfl ?_
  refine lu (u_setH (js := [0]) (Rr := []) (o := 0) (vs := [.string x1]) (cs' := [.string x1, .int .i64 x2.V.K, .int .i64 x2.V.N, .string x2.V.S]) RTBind.lasts Sz_9 rfl rfl rfl rfl ⟨rfl, trivial⟩ rfl h1 rfl rfl (fun ap => (Dj.nil _))) rfl (fun Φ_2 D2 q1 => ?_)
  obtain ⟨⟨ap1, fr1⟩, h2⟩ := q1
  refine en <| sr <| la rfl <| la rfl <| la rfl <| en <| sr <| la rfl <| la rfl <| la rfl <| lq (q_indexAddrH Sl_42 rfl rfl h2 hx2) rfl <| lf Fld_87_1 rfl rfl rfl <| lf Fld_85_0 rfl rfl rfl ?_
  refine lu (u_setH (js := [0]) (Rr := []) (o := 1) (vs := [.int .i64 (IntKind.i64.wrap (s2 + 1))]) (cs' := [.string x1, .int .i64 (IntKind.i64.wrap (s2 + 1)), .int .i64 x2.V.N, .string x2.V.S]) RTBind.lasts Sz_3 rfl rfl rfl rfl ⟨rfl, trivial⟩ rfl h2 rfl rfl (fun ap => (Dj.nil _))) rfl (fun Φ_3 D3 q2 => ?_)
  obtain ⟨⟨ap2, fr2⟩, h3⟩ := q2
  refine en <| sr <| la rfl <| la rfl <| la rfl <| en <| sr <| la rfl <| la rfl <| la rfl <| lq (q_indexAddrH Sl_42 rfl rfl h3 hx2) rfl <| lf Fld_87_1 rfl rfl rfl <| lf Fld_85_1 rfl rfl rfl ?_
  refine lu (u_setH (js := [0]) (Rr := []) (o := 2) (vs := [.int .i64 (IntKind.i64.wrap ((IntKind.i64.wrap (s2 + 1)) + 1))]) (cs' := [.string x1, .int .i64 (IntKind.i64.wrap (s2 + 1)), .int .i64 (IntKind.i64.wrap ((IntKind.i64.wrap (s2 + 1)) + 1)), .string x2.V.S]) RTBind.lasts Sz_3 rfl rfl rfl rfl ⟨rfl, trivial⟩ rfl h3 rfl rfl (fun ap => (Dj.nil _))) rfl (fun Φ_4 D4 q3 => ?_)
  obtain ⟨⟨ap3, fr3⟩, h4⟩ := q3
  refine en <| sr <| la rfl <| la rfl <| la rfl <| en <| sr <| la rfl <| la rfl <| la rfl ?_
  obtain ⟨x3, hx3, h⟩ := bs h
  refine lp (p_call Fun_116 rfl (fun w1 hw => m_l_markText_ok hw.fro N (IntKind.i64.wrap ((IntKind.i64.wrap ((IntKind.i64.wrap (s2 + 1)) + 1)) + 1)) hx3)) rfl <| lq (q_indexAddrH Sl_42 rfl rfl h4 hx2) rfl <| lf Fld_87_1 rfl rfl rfl <| lf Fld_85_2 rfl rfl rfl ?_
  refine lu (u_setH (js := [0]) (Rr := []) (o := 3) (vs := [.string x3]) (cs' := [.string x1, .int .i64 (IntKind.i64.wrap (s2 + 1)), .int .i64 (IntKind.i64.wrap ((IntKind.i64.wrap (s2 + 1)) + 1)), .string x3]) RTBind.lasts Sz_9 rfl rfl rfl rfl ⟨rfl, trivial⟩ rfl h4 rfl rfl (fun ap => (Dj.nil _))) rfl (fun Φ_5 D5 q4 => ?_)
  obtain ⟨⟨ap4, fr4⟩, h5⟩ := q4
  refine en <| rgn <| la rfl <| la rfl <| la rfl <| en <| ib <| rgn <| la rfl <| la rfl <| la rfl <| en ?_
  have h6 := h5.unfocusF RTBind.flat (cs := [.string x1, .int .i64 (IntKind.i64.wrap (s2 + 1)), .int .i64 (IntKind.i64.wrap ((IntKind.i64.wrap (s2 + 1)) + 1)), .string x3]) (x' := (⟨x1, (⟨IntKind.i64.wrap (s2 + 1), IntKind.i64.wrap ((IntKind.i64.wrap (s2 + 1)) + 1), x3⟩ : TVal)⟩ : TBind)) ⟨rfl, rfl⟩
  exact lback (ih1 (Φ_5, (s1.set s3.toNat (⟨x1, (⟨IntKind.i64.wrap (s2 + 1), IntKind.i64.wrap ((IntKind.i64.wrap (s2 + 1)) + 1), x3⟩ : TVal)⟩ : TBind)), IntKind.i64.wrap ((IntKind.i64.wrap ((IntKind.i64.wrap ((IntKind.i64.wrap (s2 + 1)) + 1)) + 1)) + 1), IntKind.i64.wrap (s3 + 1)) ⟨h, h6⟩) ⟨rfl, rfl, rfl, trivial⟩ (fun w1 hw => (hw.sel (js := [0]) rfl).selO (js := []) rfl)
 refine xt rfl <| sr <| la rfl <| la rfl <| en ?_
 refine WT.ret Tryz.func65 (resOk.one rfl) (fun w1 hw => ?_)
 subst hb0
 cases h
 refine postG_of_St (js := [0]) hw rfl ⟨rfl, rfl, k1⟩
theorem m_l_markMatchS_ok {Φ : Hp} {w : World} (hΦ : In Φ w) (N : Nat) (p0 : (List TMatch)) (p1 : Int) {pv0 : Value} {pD0 : List Nat} (ph0 : OSl OTMatch 44 3 Φ pD0 pv0 p0) (hB : [ob pv0, pD0].flatten.Nodup) (hlt : ∀ k ∈ [ob pv0, pD0].flatten, k < w.heap.size) {r : Int × (List TMatch)} (h : m_l_markMatchS N p0 p1 = some r) :
  Calls Tryz.prog 24 [pv0, .int .i64 p1].toArray w (PostG Φ w [ob pv0, pD0].flatten (fun Φ' Fs v => ∃ (Do_0_0 : List Nat), v = .int .i64 r.1 ∧ Fs = [ob pv0, Do_0_0] ∧ OSl OTMatch 44 3 Φ' Do_0_0 pv0 r.2)) := by
 refine enter Tryz.func24 rfl Tryz.ntmps24 rfl (St.start hΦ [ob pv0, pD0] hB hlt) ?_
 generalize hb0 : (⟨w, [ob pv0, pD0].flatten, Φ⟩ : Base) = w0
 unfold m_l_markMatchS at h
 refine sr <| la rfl <| en <| sq <| sr <| la rfl <| en <| blk ?_
 refine loop_in (σ := Hp × (List TMatch) × List Nat × Int × Int) (fun s => [(0, pv0), (1, .int .i64 s.2.2.2.1), (5, .int .i64 s.2.2.2.2)]) (fun s => St w0 s.1 [] [ob pv0, s.2.2.1]) (fun m s => m_l_markMatchS_l1 N m s.2.1 s.2.2.2.1 s.2.2.2.2 = some r ∧ (OSl OTMatch 44 3 s.1 s.2.2.1 pv0 s.2.1)) (Φ, p0, pD0, p1, 0) N ⟨h, ph0⟩ ⟨rfl, rfl, rfl, trivial⟩ (fun w1 hw => (hw.sel (js := [0, 0]) rfl).selO (js := []) rfl) (fun s hm => none_ne hm.1) (fun n1 ih1 s hm => ?_)
 obtain ⟨Φ_1, s1, D1, s2, s3⟩ := s
 obtain ⟨h, k1⟩ := hm
 dsimp only at h k1 ⊢
 unfold m_l_markMatchS_l1 at h
 refine sq <| sr <| la rfl <| la rfl <| lq (q_lenR Sl_32 rfl rfl (k1.rslG OTMatch.gives)) rfl <| la rfl <| en ?_
 refine cdh rfl h (fun c1 h => ?_) (fun c1 h => ?_)
 ·refine WT.skip <| sq <| blk <| sr <| la rfl <| la rfl <| la rfl ?_
  obtain ⟨x1, hx1, h⟩ := bs h
  obtain ⟨cs1, F1, D2, h1, r1, kf1, sp1⟩ := k1.focus hx1
  obtain ⟨v1, v2, rfl, rfl, h2, h3⟩ := r1
  refine WL.conv (S' := St w0 Φ_1 [] [ob v1, ob v2, D2, ob pv0]) (fun w1 hw => hw.re (js := [1]) (Bs := [ob v1, ob v2, D2]) rfl (by simpa [List.append_assoc] using sp1)) <| lq (q_indexAddrH Sl_32 rfl rfl h1 hx1) rfl <| lf Fld_44_0 rfl rfl rfl ?_
  refine lu (u_setH (js := [3]) (Rr := [ob v1, ob v2, D2]) (o := 0) (vs := [.int .i64 s2]) (cs' := [.int .i64 s2, v1, v2]) OTMatch.lasts Sz_3 rfl rfl rfl rfl ⟨rfl, trivial⟩ rfl h1 rfl rfl (fun ap => (ap.r (i := 2) rfl))) rfl (fun Φ_2 D3 q1 => ?_)
  obtain ⟨⟨ap1, fr1⟩, h4⟩ := q1
  replace h2 := h2.frame RI.lasts fr1 (ap1.r (i := 0) rfl) (Dj.nil _)
  replace h3 := h3.frame RTBind.lasts fr1 (ap1.r (i := 1) rfl) (Dj.nil _)
  refine en <| sr <| la rfl <| la rfl <| la rfl <| en <| sr <| la rfl <| la rfl <| lq (q_indexAddrH Sl_32 rfl rfl h4 hx1) rfl <| lf Fld_44_1 rfl rfl rfl <| lg 1 T1_41 h4.rg rfl rfl <| la rfl ?_
  obtain ⟨x2, hx2, h⟩ := bs h
  refine lc (k_call (js := [1]) (R := [ob pv0, ob v2, D2]) Fun_64 rfl rfl (fun w1 hw ap hl => m_l_markIntS_ok hw.fro N x1.Ids (IntKind.i64.wrap (s2 + 1)) h2 ap.nd hl hx2)) rfl (fun v3 Φ_3 F2 q2 => ?_)
  obtain ⟨ap2, fr2, rfl, rfl, h5⟩ := q2
  replace h4 := h4.frame OTMatch.lasts fr2 (ap2.r (i := 0) rfl) (ap2.r (i := 2) rfl)
  replace h3 := h3.frame RTBind.lasts fr2 (ap2.r (i := 1) rfl) (Dj.nil _)
  refine la rfl <| en <| rgn <| la rfl <| la rfl <| lq (q_indexAddrH Sl_32 rfl rfl h4 hx1) rfl <| lf Fld_44_2 rfl rfl rfl <| lg 2 T1_42 h4.rg rfl rfl <| la rfl ?_
  obtain ⟨x3, hx3, h⟩ := bs h
  refine lc (k_call (js := [2]) (R := [ob v1, ob pv0, D2]) Fun_65 rfl rfl (fun w1 hw ap hl => m_l_markBindS_ok hw.fro N x1.Binds x2.1 h3 ap.nd hl hx3)) rfl (fun v4 Φ_4 F3 q3 => ?_)
  obtain ⟨ap3, fr3, rfl, rfl, h6⟩ := q3
  replace h4 := h4.frame OTMatch.lasts fr3 (ap3.r (i := 1) rfl) (ap3.r (i := 2) rfl)
  replace h5 := h5.frame RI.lasts fr3 (ap3.r (i := 0) rfl) (Dj.nil _)
  refine la rfl <| en <| ib <| rgn <| la rfl <| la rfl <| la rfl <| en ?_
  have r2 : OTMatch Φ_4 _ [.int .i64 s2, v1, v2] (⟨s2, x2.2, x3.2⟩ : TMatch) := ⟨v1, v2, rfl, rfl, h5, h6⟩
  obtain ⟨D4, h7, sp2⟩ := h4.unfocus r2 (OTMatch.knows _ _ _ _ r2)
  refine WT.conv (S' := St w0 Φ_4 [] [D4, ob pv0]) (fun w1 hw => hw.merge (js := [1, 0, 1]) rfl (by simpa [List.append_assoc, ob_nil] using sp2)) ?_
  exact lback (ih1 (Φ_4, (s1.set s3.toNat (⟨s2, x2.2, x3.2⟩ : TMatch)), D4, x3.1, IntKind.i64.wrap (s3 + 1)) ⟨h, h7⟩) ⟨rfl, rfl, rfl, trivial⟩ (fun w1 hw => (hw.sel (js := [1, 0]) rfl).selO (js := []) rfl)
 refine xt rfl <| sr <| la rfl <| la rfl <| en ?_
 refine WT.ret Tryz.func24 (resOk.one rfl) (fun w1 hw => ?_)
 subst hb0
 cases h
 refine postG_of_St (js := [0, 0]) hw rfl ⟨D1, rfl, rfl, k1⟩
theorem m_l_heldIntS_ok {Φ : Hp} {w : World} (hΦ : In Φ w) (N : Nat) (p0 : (List Int)) (p1 : Int) {pv0 : Value} {pG0 : List Nat} (ph0 : RSl (RI .i64) 1 Φ pG0 pv0 p0) {r : Int} (h : m_l_heldIntS N p0 p1 = some r) :
  Calls Tryz.prog 66 [pv0, .int .i64 p1].toArray w (Post (.int .i64 r) w) := by
 refine enter Tryz.func66 rfl Tryz.ntmps66 rfl (St.start0 hΦ) ?_
 generalize hb0 : (⟨w, [], Φ⟩ : Base) = w0
 unfold m_l_heldIntS at h
 refine sr <| la rfl <| en <| sq <| sr <| la rfl <| en <| blk ?_
 refine loop_in (σ := Int × Int) (fun s => [(0, pv0), (1, .int .i64 s.1), (5, .int .i64 s.2)]) (fun s => St w0 Φ [] []) (fun m s => m_l_heldIntS_l1 N p0 m s.1 s.2 = some r) (p1, 0) N h ⟨rfl, rfl, rfl, trivial⟩ (fun w1 hw => (hw.sel (js := []) rfl).selO (js := []) rfl) (fun s hm => none_ne hm) (fun n1 ih1 s hm => ?_)
 obtain ⟨s1, s2⟩ := s
 have h : m_l_heldIntS_l1 N p0 (n1 + 1) s1 s2 = some r := hm
 show WT _ _ [(0, pv0), (1, .int .i64 s1), (5, .int .i64 s2)] (St w0 Φ [] [])
 unfold m_l_heldIntS_l1 at h
 refine sq <| sr <| la rfl <| la rfl <| lq (q_lenR Sl_41 rfl rfl ph0) rfl <| la rfl <| en ?_
 refine cdh rfl h (fun c1 h => ?_) (fun c1 h => ?_)
 ·refine WT.skip <| sq <| blk <| sq <| sr <| la rfl <| la rfl ?_
  obtain ⟨x1, hx1, h⟩ := bs h
  obtain ⟨cs1, F1, -, g1, hb1, hs1, r1⟩ := ph0.el (idx_some hx1).2.2
  obtain ⟨rfl, -⟩ := r1
  refine lq (q_indexAddr Sl_41 rfl rfl ph0 hx1) rfl <| lg 0 T1_3 g1 rfl rfl <| la rfl <| la rfl <| en ?_
  refine cdh rfl h (fun c2 h => ?_) (fun c2 h => ?_)
  ·refine sr <| la rfl <| en ?_
   refine WT.ret Tryz.func66 (resOk.one rfl) (fun w1 hw => ?_)
   subst hb0
   cases h
   exact post_of_St hw
  refine WT.skip <| rgn <| la rfl <| la rfl <| la rfl <| en <| ib <| rgn <| la rfl <| la rfl <| la rfl <| en ?_
  exact lback (ih1 (IntKind.i64.wrap (s1 + 1), IntKind.i64.wrap (s2 + 1)) h) ⟨rfl, rfl, rfl, trivial⟩ (fun w1 hw => (hw.sel (js := []) rfl).selO (js := []) rfl)
 refine xt rfl <| sr <| la rfl <| la rfl <| en ?_
 refine WT.ret Tryz.func66 (resOk.one rfl) (fun w1 hw => ?_)
 subst hb0
 cases h
 exact post_of_St hw
theorem m_l_heldBindS_ok {Φ : Hp} {w : World} (hΦ : In Φ w) (N : Nat) (p0 : (List TBind)) (p1 : Int) {pv0 : Value} {pG0 : List Nat} (ph0 : RSl RTBind 4 Φ pG0 pv0 p0) {r : Int} (h : m_l_heldBindS N p0 p1 = some r) :
  Calls Tryz.prog 67 [pv0, .int .i64 p1].toArray w (Post (.int .i64 r) w) := by
 refine enter Tryz.func67 rfl Tryz.ntmps67 rfl (St.start0 hΦ) ?_
 generalize hb0 : (⟨w, [], Φ⟩ : Base) = w0
 unfold m_l_heldBindS at h
 refine sr <| la rfl <| en <| sq <| sr <| la rfl <| en <| blk ?_
 refine loop_in (σ := Int × Int) (fun s => [(0, pv0), (1, .int .i64 s.1), (5, .int .i64 s.2)]) (fun s => St w0 Φ [] []) (fun m s => m_l_heldBindS_l1 N p0 m s.1 s.2 = some r) (p1, 0) N h ⟨rfl, rfl, rfl, trivial⟩ (fun w1 hw => (hw.sel (js := []) rfl).selO (js := []) rfl) (fun s hm => none_ne hm) (fun n1 ih1 s hm => ?_)
 obtain ⟨s1, s2⟩ := s
 have h : m_l_heldBindS_l1 N p0 (n1 + 1) s1 s2 = some r := hm
 show WT _ _ [(0, pv0), (1, .int .i64 s1), (5, .int .i64 s2)] (St w0 Φ [] [])
 unfold m_l_heldBindS_l1 at h
 refine sq <| sr <| la rfl <| la rfl <| lq (q_lenR Sl_42 rfl rfl ph0) rfl <| la rfl <| en ?_
 refine cdh rfl h (fun c1 h => ?_) (fun c1 h => ?_)
 ·refine WT.skip <| sq <| blk <| sq <| sq <| WT.draw mixed (by kernel_rfl) (fun _ h => h.drew) <| qq (q_move rfl) rfl <| qq (q_move rfl) rfl ?_
  obtain ⟨x1, hx1, h⟩ := bs h
  obtain ⟨cs1, F1, -, g1, hb1, hs1, r1⟩ := ph0.el (idx_some hx1).2.2
  obtain ⟨rfl, -⟩ := r1
  refine qq (q_indexAddr Sl_42 rfl rfl ph0 hx1) rfl <| qq (q_fieldAddr Fld_87_0 rfl) rfl <| qq (q_load1 T1_9 rfl (fun w1 hw => (g1.of_eq 0 1 rfl rfl : rg _ _ _ [.string x1.Name]).rangeAt hw.fro)) rfl <| qq (q_move rfl) rfl ?_
  obtain ⟨x2, hx2, h⟩ := bs h
  refine qp (p_call Fun_116 rfl (fun w1 hw => m_l_markText_ok hw.fro N s1 hx2)) rfl <| qq (q_sne rfl rfl) rfl <| WQ.nil ?_
  refine cdh rfl h (fun c2 h => ?_) (fun c2 h => ?_)
  ·refine sr <| la rfl <| en ?_
   refine WT.ret Tryz.func67 (resOk.one rfl) (fun w1 hw => ?_)
   subst hb0
   cases h
   exact post_of_St hw
  refine WT.skip <| sr <| la rfl <| la rfl <| la rfl <| en <| sq <| sr <| la rfl <| la rfl ?_
  obtain ⟨x3, hx3, h⟩ := bs h
  obtain ⟨cs2, F2, -, g2, hb2, hs2, r2⟩ := ph0.el (idx_some hx3).2.2
  obtain ⟨rfl, -⟩ := r2
  refine lq (q_indexAddr Sl_42 rfl rfl ph0 hx3) rfl <| lf Fld_87_1 rfl rfl rfl <| lf Fld_85_0 rfl rfl rfl <| lq (q_load1 T1_3 rfl (fun w1 hw => (g2.of_eq 1 1 (by omega) rfl : rg _ _ _ [.int .i64 x3.V.K]).rangeAt hw.fro)) rfl <| la rfl <| la rfl <| en ?_
  refine cdh rfl h (fun c3 h => ?_) (fun c3 h => ?_)
  ·refine sr <| la rfl <| en ?_
   refine WT.ret Tryz.func67 (resOk.one rfl) (fun w1 hw => ?_)
   subst hb0
   cases h
   exact post_of_St hw
  refine WT.skip <| sr <| la rfl <| la rfl <| la rfl <| en <| sq <| sr <| la rfl <| la rfl ?_
  obtain ⟨x4, hx4, h⟩ := bs h
  obtain ⟨cs3, F3, -, g3, hb3, hs3, r3⟩ := ph0.el (idx_some hx4).2.2
  obtain ⟨rfl, -⟩ := r3
  refine lq (q_indexAddr Sl_42 rfl rfl ph0 hx4) rfl <| lf Fld_87_1 rfl rfl rfl <| lf Fld_85_1 rfl rfl rfl <| lq (q_load1 T1_3 rfl (fun w1 hw => (g3.of_eq 2 1 (by omega) rfl : rg _ _ _ [.int .i64 x4.V.N]).rangeAt hw.fro)) rfl <| la rfl <| la rfl <| en ?_
  refine cdh rfl h (fun c4 h => ?_) (fun c4 h => ?_)
  ·refine sr <| la rfl <| en ?_
   refine WT.ret Tryz.func67 (resOk.one rfl) (fun w1 hw => ?_)
   subst hb0
   cases h
   exact post_of_St hw
  refine WT.skip <| sr <| la rfl <| la rfl <| la rfl <| en <| sq <| sq <| WT.draw mixed (by kernel_rfl) (fun _ h => h.drew) <| qq (q_move rfl) rfl <| qq (q_move rfl) rfl ?_
  obtain ⟨x5, hx5, h⟩ := bs h
  obtain ⟨cs4, F4, -, g4, hb4, hs4, r4⟩ := ph0.el (idx_some hx5).2.2
  obtain ⟨rfl, -⟩ := r4
  refine qq (q_indexAddr Sl_42 rfl rfl ph0 hx5) rfl <| qq (q_fieldAddr Fld_87_1 rfl) rfl <| qq (q_fieldAddr Fld_85_2 rfl) rfl <| qq (q_load1 T1_9 rfl (fun w1 hw => (g4.of_eq 3 1 (by omega) rfl : rg _ _ _ [.string x5.V.S]).rangeAt hw.fro)) rfl <| qq (q_move rfl) rfl ?_
  obtain ⟨x6, hx6, h⟩ := bs h
  refine qp (p_call Fun_116 rfl (fun w1 hw => m_l_markText_ok hw.fro N (IntKind.i64.wrap ((IntKind.i64.wrap ((IntKind.i64.wrap (s1 + 1)) + 1)) + 1)) hx6)) rfl <| qq (q_sne rfl rfl) rfl <| WQ.nil ?_
  refine cdh rfl h (fun c5 h => ?_) (fun c5 h => ?_)
  ·refine sr <| la rfl <| en ?_
   refine WT.ret Tryz.func67 (resOk.one rfl) (fun w1 hw => ?_)
   subst hb0
   cases h
   exact post_of_St hw
  refine WT.skip <| rgn <| la rfl <| la rfl <| la rfl <| en <| ib <| rgn <| la rfl <| la rfl <| la rfl <| en ?_
  exact lback (ih1 (IntKind.i64.wrap ((IntKind.i64.wrap ((IntKind.i64.wrap ((IntKind.i64.wrap (s1 + 1)) + 1)) + 1)) + 1), IntKind.i64.wrap (s2 + 1)) h) ⟨rfl, rfl, rfl, trivial⟩ (fun w1 hw => (hw.sel (js := []) rfl).selO (js := []) rfl)
 refine xt rfl <| sr <| la rfl <| la rfl <| en ?_
 refine WT.ret Tryz.func67 (resOk.one rfl) (fun w1 hw => ?_)
 subst hb0
 cases h
 exact post_of_St hw
end Go.Proofs.YtelchcokfcdndaaGreat
