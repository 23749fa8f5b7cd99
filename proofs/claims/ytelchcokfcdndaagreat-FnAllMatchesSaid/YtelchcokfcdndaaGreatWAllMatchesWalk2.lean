/- Printed by a program of ours: each Go function computes its Lean function. -/
import Derived.Test.YtelchcokfcdndaaGreatProg
import Derived.Test.YtelchcokfcdndaaGreatWAllMatchesWalk1
namespace Go.Proofs.YtelchcokfcdndaaGreat
open Eng
open Go.RowKit (Below)
set_option linter.unusedVariables false
set_option linter.unusedSimpArgs false

set_option maxRecDepth 100000
set_option maxHeartbeats 1000000
theorem m_s_l9Draw_ok {Φ : Hp} {w : World} (hΦ : In Φ w) (N : Nat) (p0 : Tl1Cur) (p1 : ByteArray) {pv0_0 : Value} {pG0_0 : List Nat} {pb0 : Nat} (ph0_0 : RSl (RI .u8) 1 Φ pG0_0 pv0_0 p0.b) (pp0 : Φ pb0 = some (.cells #[pv0_0, .int .i64 p0.i, .int .i64 p0.h] 112 (0, 0))) (pd0_0 : Dj pG0_0 [[pb0]].flatten) (hB : [[pb0]].flatten.Nodup) (hlt : ∀ k ∈ [[pb0]].flatten, k < w.heap.size) {r : TRule × Tl1Cur} (h : m_s_l9Draw N p0 p1 = some r) :
  Calls Tryz.prog 74 [.pointer (some ⟨pb0, 0, none⟩), .string p1].toArray w (PostG Φ w [[pb0]].flatten (fun Φ' Fs v => ∃ (sr_0_0 : Value) (Dr_0_0 : List Nat) (sr_0_1 : Value) (sr_0_2 : Value) (Dr_0_2 : List Nat), v = .agg [.string r.1.Name, .int .i64 r.1.Sal, sr_0_0, sr_0_1, sr_0_2].toArray ∧ Fs = [ob sr_0_0, Dr_0_0, ob sr_0_1, ob sr_0_2, Dr_0_2, [pb0]] ∧ OSl OTPat 171 3 Φ' Dr_0_0 sr_0_0 r.1.Pats ∧ OSl RTCond 139 11 Φ' [] sr_0_1 r.1.Conds ∧ OSl OTAct 143 5 Φ' Dr_0_2 sr_0_2 r.1.Acts ∧ r.2.b = p0.b ∧ Φ' pb0 = some (.cells #[pv0_0, .int .i64 r.2.i, .int .i64 r.2.h] 112 (0, 0)))) := by
 refine enter Tryz.func74 rfl Tryz.ntmps74 rfl (St.start hΦ [[pb0]] hB hlt) ?_
 have pa0_0 := Old.mk hΦ ph0_0.kn pd0_0
 revert pa0_0
 generalize hb0 : (⟨w, [[pb0]].flatten, Φ⟩ : Base) = w0
 intro pa0_0
 unfold m_s_l9Draw at h
 refine sr ?_
 refine ln (nz Zr_40) rfl (fun b_1 => ?_)
 refine en <| sr <| la rfl <| la rfl ?_
 have rc1 : RC (RI .i64) 1 Φ ([[], [], [], [], []] : List (List Nat)) [.int .i64 0, .int .i64 0, .int .i64 5, .int .i64 (-5), .int .i64 100] ([0, 0, 5, (-5), 100] : List Int) := RC.cons (c := [.int .i64 0]) (cells := [.int .i64 0, .int .i64 5, .int .i64 (-5), .int .i64 100]) ⟨rfl, rfl⟩ rfl (RC.cons (c := [.int .i64 0]) (cells := [.int .i64 5, .int .i64 (-5), .int .i64 100]) ⟨rfl, rfl⟩ rfl (RC.cons (c := [.int .i64 5]) (cells := [.int .i64 (-5), .int .i64 100]) ⟨rfl, rfl⟩ rfl (RC.cons (c := [.int .i64 (-5)]) (cells := [.int .i64 100]) ⟨rfl, rfl⟩ rfl (RC.cons (c := [.int .i64 100]) (cells := []) ⟨rfl, rfl⟩ rfl (RC.nil _ _ _)))))
 refine le' (e_lit (vs := [(0, .int .i64 0), (1, .int .i64 0), (2, .int .i64 5), (3, .int .i64 (-5)), (4, .int .i64 100)]) (C := #[.int .i64 0, .int .i64 0, .int .i64 5, .int .i64 (-5), .int .i64 100]) RI.lasts Sl_41 Zr_3 rfl rfl rfl rfl (fill_made MC_3_5 (fill_cons (C' := [.int .i64 0, .int .i64 0, .int .i64 0, .int .i64 0, .int .i64 0]) rfl rfl rfl rfl rfl (fill_cons (C' := [.int .i64 0, .int .i64 0, .int .i64 0, .int .i64 0, .int .i64 0]) rfl rfl rfl rfl rfl (fill_cons (C' := [.int .i64 0, .int .i64 0, .int .i64 5, .int .i64 0, .int .i64 0]) rfl rfl rfl rfl rfl (fill_cons (C' := [.int .i64 0, .int .i64 0, .int .i64 5, .int .i64 (-5), .int .i64 0]) rfl rfl rfl rfl rfl (fill_cons (C' := [.int .i64 0, .int .i64 0, .int .i64 5, .int .i64 (-5), .int .i64 100]) rfl rfl rfl rfl rfl (fill_nil))))))) rfl rc1 rfl (by simpa using Kw.nil)) rfl (fun v1 Φ_1 D1 q1 => ?_)
 obtain ⟨fr1, h1⟩ := q1
 replace h1 : OSl (RI .i64) 3 1 Φ_1 [] v1 ([0, 0, 5, (-5), 100] : List Int) := by simpa using h1
 replace ph0_0 := ph0_0.frame RI.lasts fr1 (Dj.empty _)
 replace pp0 := fr1 _ _ (by simp) pp0
 obtain ⟨x1, hx1, h⟩ := bs h
 refine lc (k_call (js := [1]) (R := [ob v1]) Fun_121 rfl rfl (fun w1 hw ap hl => m_s_l1Int_ok hw.fro N p0 ([0, 0, 5, (-5), 100] : List Int) ph0_0 pp0 h1.rsl (ap.o pa0_0) (Dj.app (ap.r (i := 0) rfl) (Dj.nil _)) ap.nd hl hx1)) rfl (fun v2 Φ_2 F1 q2 => ?_)
 obtain ⟨ap1, fr2, rfl, rfl, e1, h2⟩ := q2
 replace ph0_0 := ph0_0.frame RI.lasts fr2 (ap1.o pa0_0)
 refine lq (q_build (vs := [(0, .string p1), (1, .int .i64 x1.1)]) (C := #[.string p1, .int .i64 x1.1, .slice none 0 0, .slice none 0 0, .slice none 0 0]) Pl_40 Zr_40 rfl (fill_cons (C' := [.string p1, .int .i64 0, .slice none 0 0, .slice none 0 0, .slice none 0 0]) rfl rfl rfl rfl rfl (fill_cons (C' := [.string p1, .int .i64 x1.1, .slice none 0 0, .slice none 0 0, .slice none 0 0]) rfl rfl rfl rfl rfl (fill_nil)))) rfl ?_
 refine ln (nz Zr_40) rfl (fun b_2 => ?_)
 refine soN 0 Sz_40 rfl ⟨rfl, rfl, rfl, rfl, rfl, trivial⟩ rfl ?_
 refine en <| sq <| sr <| la rfl ?_
 obtain ⟨x2, hx2, h⟩ := bs h
 refine lc (k_call (js := [0]) (R := [ob v1]) Fun_73 rfl rfl (fun w1 hw ap hl => m_s_l1Below_ok hw.fro N (⟨p0.b, x1.2.i, x1.2.h⟩ : Tl1Cur) 3 ph0_0 h2 (ap.o pa0_0) ap.nd hl hx2)) rfl (fun v3 Φ_3 F2 q3 => ?_)
 obtain ⟨ap2, fr3, rfl, rfl, e2, h3⟩ := q3
 replace ph0_0 := ph0_0.frame RI.lasts fr3 (ap2.o pa0_0)
 refine la rfl <| la rfl <| en <| blk <| WT.loop <| WT.conv (S' := St w0 Φ_3 [(b_2, .cells #[.string p1, .int .i64 x1.1, .slice none 0 0, .slice none 0 0, .slice none 0 0] 40 (0, 0)), (b_1, .cells #[.string (⟨#[]⟩ : ByteArray), .int .i64 0, .slice none 0 0, .slice none 0 0, .slice none 0 0] 40 (0, 0))] (ob (.slice none 0 0) :: [[pb0], ob v1])) (fun w1 hw => hw.addNil) <| WT.conv (S' := St w0 Φ_3 [(b_2, .cells #[.string p1, .int .i64 x1.1, .slice none 0 0, .slice none 0 0, .slice none 0 0] 40 (0, 0)), (b_1, .cells #[.string (⟨#[]⟩ : ByteArray), .int .i64 0, .slice none 0 0, .slice none 0 0, .slice none 0 0] 40 (0, 0))] ([] :: [ob (.slice none 0 0), [pb0], ob v1])) (fun w1 hw => hw.addNil) ?_
 have k1 := OSl.nil OTPat 171 3 Φ_3
 refine WT.mono (l' := [(0, .pointer (some ⟨pb0, 0, none⟩)), (4, .pointer (some ⟨b_1, 0, none⟩)), (5, .pointer (some ⟨b_2, 0, none⟩)), (6, .int .i64 (IntKind.i64.wrap (1 + x2.1)))]) (S' := St w0 Φ_3 [(b_2, .cells #[.string p1, .int .i64 x1.1, (.slice none 0 0), .slice none 0 0, .slice none 0 0] 40 (0, 0)), (b_1, .cells #[.string (⟨#[]⟩ : ByteArray), .int .i64 0, .slice none 0 0, .slice none 0 0, .slice none 0 0] 40 (0, 0))] [[], ob (.slice none 0 0), [pb0]]) ⟨rfl, rfl, rfl, rfl, trivial⟩ (fun w1 hw => (hw.sel (js := [0, 0, 0]) rfl).selO (js := [0, 0]) rfl) ?_
 refine loop_ind (σ := Hp × (List TPat) × Value × List Nat × Int × Int × Int) (fun s => [(0, .pointer (some ⟨pb0, 0, none⟩)), (4, .pointer (some ⟨b_1, 0, none⟩)), (5, .pointer (some ⟨b_2, 0, none⟩)), (6, .int .i64 s.2.2.2.2.1)]) (fun s => St w0 s.1 [(b_2, .cells #[.string p1, .int .i64 x1.1, s.2.2.1, .slice none 0 0, .slice none 0 0] 40 (0, 0)), (b_1, .cells #[.string (⟨#[]⟩ : ByteArray), .int .i64 0, .slice none 0 0, .slice none 0 0, .slice none 0 0] 40 (0, 0))] [s.2.2.2.1, ob s.2.2.1, [pb0]]) (fun m s => m_s_l9Draw_l1 N p0 p1 x1 m s.2.1 s.2.2.2.2.1 s.2.2.2.2.2.1 s.2.2.2.2.2.2 = some r ∧ (OSl OTPat 171 3 s.1 s.2.2.2.1 s.2.2.1 s.2.1) ∧ (s.1 pb0 = some (.cells #[pv0_0, .int .i64 s.2.2.2.2.2.1, .int .i64 s.2.2.2.2.2.2] 112 (0, 0))) ∧ (RSl (RI .u8) 1 s.1 pG0_0 pv0_0 p0.b)) (fun s hm => none_ne (show (none : Option (TRule × Tl1Cur)) = some r from hm.1)) (fun n1 ih1 s hm => ?_) N (Φ_3, ([] : List TPat), (.slice none 0 0), [], IntKind.i64.wrap (1 + x2.1), x2.2.i, x2.2.h) ⟨h, k1, h3, ph0_0⟩
 obtain ⟨Φ_4, s1, u1, D2, s2, s3, s4⟩ := s
 obtain ⟨h, k2, k3, ph0_0⟩ := hm
 dsimp only at h k2 k3 ph0_0 ⊢
 unfold m_s_l9Draw_l1 at h
 refine sq <| sr <| la rfl <| la rfl <| en ?_
 refine cdh rfl h (fun c1 h => ?_) (fun c1 h => ?_)
 ·refine WT.skip <| sq <| blk <| WT.mix (Kn Φ_4 [] [(b_2, .cells #[.string p1, .int .i64 x1.1, u1, .slice none 0 0, .slice none 0 0] 40 (0, 0)), (b_1, .cells #[.string (⟨#[]⟩ : ByteArray), .int .i64 0, .slice none 0 0, .slice none 0 0, .slice none 0 0] 40 (0, 0))]) (fun i => match i with | 7 => false | _ => true) mixed (fun _ h => h.drew) <| mq 0 rfl (by kernel_rfl) (kn Kf.nil (ai2 0 1 rfl rfl)) (q_fieldAddr Fld_40_2 rfl) rfl ?_
  refine mq 1 rfl (by kernel_rfl) (kn Kf.nil (ai2 0 1 rfl rfl)) (q_load1 T1_36 rfl (fun w1 hw => hw.rgO (i := 0) rfl 2 1 [u1] rfl)) rfl <| ma 2 rfl (by kernel_rfl) (kn Kf.nil (ai2 0 1 rfl rfl)) rfl ?_
  obtain ⟨x3, hx3, h⟩ := bs h
  refine WM.one 3 (by kernel_rfl) (mc rfl (fun _ v Φx D w1 hq hw => Kn.of Kf.nil (ai2 0 1 rfl rfl) hw) (k_call (js := [2]) (R := [D2, ob u1]) Fun_122 rfl rfl (fun w1 hw ap hl => m_s_l6Draw_ok hw.fro N (⟨p0.b, s3, s4⟩ : Tl1Cur) false ph0_0 k3 (ap.o pa0_0) ap.nd hl hx3)) rfl (fun v4 Φ_5 F3 q4 => ?_))
  obtain ⟨ap3, fr4, v5, rfl, rfl, h4, e3, h5⟩ := q4
  replace ph0_0 := ph0_0.frame RI.lasts fr4 (ap3.o pa0_0)
  replace k2 := k2.frame OTPat.lasts fr4 (ap3.r (i := 1) rfl) (ap3.r (i := 0) rfl)
  have rc2 : RC OTPat 3 Φ_5 ([(ob v5 ++ [])] : List (List Nat)) [.string x3.1.Kind, v5, .bool x3.1.Not] ([x3.1] : List TPat) := RC.cons (c := [.string x3.1.Kind, v5, .bool x3.1.Not]) (cells := []) ⟨v5, rfl, rfl, h4⟩ rfl (RC.nil _ _ _)
  refine WM.one 4 (by kernel_rfl) (me rfl (fun _ v Φx D w1 hq hw => Kn.of Kf.nil (ai2 0 1 rfl rfl) hw) (e_lit (vs := [(0, .agg [.string x3.1.Kind, v5, .bool x3.1.Not].toArray)]) (C := #[.string x3.1.Kind, v5, .bool x3.1.Not]) OTPat.lasts Sl_36 Zr_171 rfl rfl rfl rfl (fill_made MC_171_1 (fill_cons (C' := [.string x3.1.Kind, v5, .bool x3.1.Not]) rfl rfl rfl rfl rfl (fill_nil))) rfl rc2 rfl (RC.kn OTPat.knows rc2)) rfl (fun v6 Φ_6 D3 q5 => ?_))
  obtain ⟨fr5, h6⟩ := q5
  replace h6 : OSl OTPat 171 3 Φ_6 ((ob v5 ++ [])) v6 ([x3.1] : List TPat) := by simpa [List.append_assoc] using h6
  replace ph0_0 := ph0_0.frame RI.lasts fr5 (Dj.empty _)
  replace k2 := k2.frame OTPat.lasts fr5 (Dj.empty _) (Dj.empty _)
  replace h5 := fr5 _ _ (by simp) h5
  refine WM.conv (S' := St w0 Φ_6 [(b_2, .cells #[.string p1, .int .i64 x1.1, u1, .slice none 0 0, .slice none 0 0] 40 (0, 0)), (b_1, .cells #[.string (⟨#[]⟩ : ByteArray), .int .i64 0, .slice none 0 0, .slice none 0 0, .slice none 0 0] 40 (0, 0))] [((ob v5 ++ [])), ob v6, [pb0], D2, ob u1]) (fun w1 hw => hw.merge (js := [1]) rfl (SP.eq (by simp [List.append_assoc, ob_nil]))) ?_
  obtain ⟨x4, hx4, h⟩ := bs h
  refine WM.one 5 (by kernel_rfl) (me rfl (fun _ v Φx D w1 hq hw => Kn.of Kf.nil (ai2 0 1 rfl rfl) hw) (e_appO OTPat.lasts OTPat.one Sl_36 Ei_171 rfl rfl rfl rfl rfl (js := [4]) (Rr := [((ob v5 ++ [])), ob v6, [pb0], D2]) rfl k2 h6 (fun ap => (ap.r (i := 3) rfl)) (fun ap => (ap.r (i := 0) rfl)) hx4) rfl (fun v7 Φ_7 D4 q6 => ?_))
  obtain ⟨⟨ap4, fr6⟩, h7⟩ := q6
  replace ph0_0 := ph0_0.frame RI.lasts fr6 (ap4.o pa0_0)
  replace h5 := fr6 _ _ ((ap4.r (i := 2) rfl) _ (by simp)) h5
  refine WM.conv (S' := St w0 Φ_7 [(b_2, .cells #[.string p1, .int .i64 x1.1, u1, .slice none 0 0, .slice none 0 0] 40 (0, 0)), (b_1, .cells #[.string (⟨#[]⟩ : ByteArray), .int .i64 0, .slice none 0 0, .slice none 0 0, .slice none 0 0] 40 (0, 0))] [(D2 ++ ((ob v5 ++ []))), ob v7, ob v6, [pb0]]) (fun w1 hw => hw.merge (js := [4, 1]) rfl (SP.eq (by simp))) <| mq 6 rfl (by kernel_rfl) (kn Kf.nil (ai2 0 1 rfl rfl)) (q_fieldAddr Fld_40_2 rfl) rfl ?_
  refine WM.one 7 (by kernel_rfl) (ms rfl (fun hc => by cases hc) (s_store (i := 0) (vs := [v7]) (C' := [.string p1, .int .i64 x1.1, v7, .slice none 0 0, .slice none 0 0]) (O' := [(b_2, .cells #[.string p1, .int .i64 x1.1, v7, .slice none 0 0, .slice none 0 0] 40 (0, 0)), (b_1, .cells #[.string (⟨#[]⟩ : ByteArray), .int .i64 0, .slice none 0 0, .slice none 0 0, .slice none 0 0] 40 (0, 0))]) Sz_36 rfl rfl rfl (one_cells h7.one) rfl rfl ⟨h7.one, trivial⟩ rfl rfl) rfl ?_)
  refine WM.nil (by kernel_rfl) <| ib <| rgn <| la rfl <| la rfl <| la rfl <| en ?_
  exact lback (ih1 (Φ_7, x4, v7, (D2 ++ ((ob v5 ++ []))), IntKind.i64.wrap (s2 - 1), x3.2.i, x3.2.h) ⟨h, h7, h5, ph0_0⟩) ⟨rfl, rfl, rfl, rfl, trivial⟩ (fun w1 hw => (hw.sel (js := [0, 0, 1]) rfl).selO (js := [0, 0]) rfl)
 refine xt rfl <| sq <| sr <| la rfl ?_
 obtain ⟨x5, hx5, h⟩ := bs h
 refine lc (k_call (js := [2]) (R := [D2, ob u1]) Fun_32 rfl rfl (fun w1 hw ap hl => m_s_l1Once_ok hw.fro N (⟨p0.b, s3, s4⟩ : Tl1Cur) 3 ph0_0 k3 (ap.o pa0_0) ap.nd hl hx5)) rfl (fun v8 Φ_8 F4 q7 => ?_)
 obtain ⟨ap5, fr7, rfl, rfl, e4, h8⟩ := q7
 replace ph0_0 := ph0_0.frame RI.lasts fr7 (ap5.o pa0_0)
 replace k2 := k2.frame OTPat.lasts fr7 (ap5.r (i := 1) rfl) (ap5.r (i := 0) rfl)
 refine en ?_
 refine cut (σ := Hp × (List TPat) × Value × List Nat × Int × Int) (fun s => [(0, .pointer (some ⟨pb0, 0, none⟩)), (4, .pointer (some ⟨b_1, 0, none⟩)), (5, .pointer (some ⟨b_2, 0, none⟩))]) (fun s => St w0 s.1 [(b_2, .cells #[.string p1, .int .i64 x1.1, s.2.2.1, .slice none 0 0, .slice none 0 0] 40 (0, 0)), (b_1, .cells #[.string (⟨#[]⟩ : ByteArray), .int .i64 0, .slice none 0 0, .slice none 0 0, .slice none 0 0] 40 (0, 0))] [[pb0], s.2.2.2.1, ob s.2.2.1]) (fun s => m_s_l9Draw_j2 N p0 p1 x1 s.2.1 s.2.2.2.2.1 s.2.2.2.2.2 = some r ∧ (OSl OTPat 171 3 s.1 s.2.2.2.1 s.2.2.1 s.2.1) ∧ (s.1 pb0 = some (.cells #[pv0_0, .int .i64 s.2.2.2.2.1, .int .i64 s.2.2.2.2.2] 112 (0, 0))) ∧ (RSl (RI .u8) 1 s.1 pG0_0 pv0_0 p0.b)) (fun s hm => ?_) (fun K => ?_)
 ·clear h
  obtain ⟨Φ_9, s5, u2, D5, s6, s7⟩ := s
  obtain ⟨h, k4, k5, ph0_0⟩ := hm
  dsimp only at h k4 k5 ph0_0 ⊢
  unfold m_s_l9Draw_j2 at h
  refine sr <| ld5 Tn_40 0 rfl ?_
  obtain ⟨x6, hx6, h⟩ := bs h
  refine lc (k_call (js := []) (R := [[pb0], D5, ob u2]) Fun_85 rfl rfl (fun w1 hw ap hl => m_s_PosVars_ok hw.fro N (⟨p1, x1.1, s5, [], []⟩ : TRule) (k4.rslG OTPat.gives) (RSl.nil _ _ _) (RSl.nil _ _ _)  hx6)) rfl (fun v9 Φ_10 F5 q8 => ?_)
  obtain ⟨ap6, fr8, v10, rfl, rfl, h9⟩ := q8
  replace ph0_0 := ph0_0.frame RI.lasts fr8 (ap6.o pa0_0)
  replace k4 := k4.frame OTPat.lasts fr8 (ap6.r (i := 2) rfl) (ap6.r (i := 1) rfl)
  replace k5 := fr8 _ _ ((ap6.r (i := 0) rfl) _ (by simp)) k5
  refine la rfl <| en <| sq <| sr <| la rfl ?_
  obtain ⟨x7, hx7, h⟩ := bs h
  refine lc (k_call (js := [1]) (R := [ob v9, D5, ob u2]) Fun_32 rfl rfl (fun w1 hw ap hl => m_s_l1Once_ok hw.fro N (⟨p0.b, s6, s7⟩ : Tl1Cur) 3 ph0_0 k5 (ap.o pa0_0) ap.nd hl hx7)) rfl (fun v11 Φ_11 F6 q9 => ?_)
  obtain ⟨ap7, fr9, rfl, rfl, e5, h10⟩ := q9
  replace ph0_0 := ph0_0.frame RI.lasts fr9 (ap7.o pa0_0)
  replace k4 := k4.frame OTPat.lasts fr9 (ap7.r (i := 2) rfl) (ap7.r (i := 1) rfl)
  replace h9 := h9.frame RS.lasts fr9 (ap7.r (i := 0) rfl) (Dj.nil _)
  refine en <| WT.conv (S' := St w0 Φ_11 [(b_2, .cells #[.string p1, .int .i64 x1.1, u2, .slice none 0 0, .slice none 0 0] 40 (0, 0)), (b_1, .cells #[.string (⟨#[]⟩ : ByteArray), .int .i64 0, .slice none 0 0, .slice none 0 0, .slice none 0 0] 40 (0, 0))] (ob (.slice none 0 0) :: [[pb0], ob v9, D5, ob u2])) (fun w1 hw => hw.addNil) ?_
  have k6 := OSl.nil RTCond 139 11 Φ_11
  refine cut (σ := Hp × (List TCond) × Value × Int × Int) (fun s => [(0, .pointer (some ⟨pb0, 0, none⟩)), (4, .pointer (some ⟨b_1, 0, none⟩)), (5, .pointer (some ⟨b_2, 0, none⟩)), (7, v9)]) (fun s => St w0 s.1 [(b_2, .cells #[.string p1, .int .i64 x1.1, u2, s.2.2.1, .slice none 0 0] 40 (0, 0)), (b_1, .cells #[.string (⟨#[]⟩ : ByteArray), .int .i64 0, .slice none 0 0, .slice none 0 0, .slice none 0 0] 40 (0, 0))] [ob s.2.2.1, [pb0], ob v9, D5, ob u2]) (fun s => m_s_l9Draw_j3 N p0 p1 x1 s5 x6 s.2.1 s.2.2.2.1 s.2.2.2.2 = some r ∧ (OSl OTPat 171 3 s.1 D5 u2 s5) ∧ (OSl RS 9 1 s.1 [] v9 x6) ∧ (OSl RTCond 139 11 s.1 [] s.2.2.1 s.2.1) ∧ (s.1 pb0 = some (.cells #[pv0_0, .int .i64 s.2.2.2.1, .int .i64 s.2.2.2.2] 112 (0, 0))) ∧ (RSl (RI .u8) 1 s.1 pG0_0 pv0_0 p0.b)) (fun s hm => ?_) (fun K => ?_)
  ·clear h
   obtain ⟨Φ_12, s8, u3, s9, s10⟩ := s
   obtain ⟨h, k4, h9, k7, k8, ph0_0⟩ := hm
   dsimp only at h k4 h9 k7 k8 ph0_0 ⊢
   unfold m_s_l9Draw_j3 at h
   refine sq <| sr <| la rfl ?_
   obtain ⟨x8, hx8, h⟩ := bs h
   refine lc (k_call (js := [1]) (R := [ob u3, ob v9, D5, ob u2]) Fun_73 rfl rfl (fun w1 hw ap hl => m_s_l1Below_ok hw.fro N (⟨p0.b, s9, s10⟩ : Tl1Cur) 3 ph0_0 k8 (ap.o pa0_0) ap.nd hl hx8)) rfl (fun v12 Φ_13 F7 q10 => ?_)
   obtain ⟨ap8, fr10, rfl, rfl, e6, h11⟩ := q10
   replace ph0_0 := ph0_0.frame RI.lasts fr10 (ap8.o pa0_0)
   replace k4 := k4.frame OTPat.lasts fr10 (ap8.r (i := 3) rfl) (ap8.r (i := 2) rfl)
   replace h9 := h9.frame RS.lasts fr10 (ap8.r (i := 1) rfl) (Dj.nil _)
   replace k7 := k7.frame RTCond.lasts fr10 (ap8.r (i := 0) rfl) (Dj.nil _)
   refine la rfl <| la rfl <| en <| blk <| WT.loop <| WT.conv (S' := St w0 Φ_13 [(b_2, .cells #[.string p1, .int .i64 x1.1, u2, u3, .slice none 0 0] 40 (0, 0)), (b_1, .cells #[.string (⟨#[]⟩ : ByteArray), .int .i64 0, .slice none 0 0, .slice none 0 0, .slice none 0 0] 40 (0, 0))] (ob (.slice none 0 0) :: [[pb0], ob u3, ob v9, D5, ob u2])) (fun w1 hw => hw.addNil) <| WT.conv (S' := St w0 Φ_13 [(b_2, .cells #[.string p1, .int .i64 x1.1, u2, u3, .slice none 0 0] 40 (0, 0)), (b_1, .cells #[.string (⟨#[]⟩ : ByteArray), .int .i64 0, .slice none 0 0, .slice none 0 0, .slice none 0 0] 40 (0, 0))] ([] :: [ob (.slice none 0 0), [pb0], ob u3, ob v9, D5, ob u2])) (fun w1 hw => hw.addNil) ?_
   have k9 := OSl.nil OTAct 143 5 Φ_13
   refine WT.mono (l' := [(0, .pointer (some ⟨pb0, 0, none⟩)), (4, .pointer (some ⟨b_1, 0, none⟩)), (5, .pointer (some ⟨b_2, 0, none⟩)), (7, v9), (9, .int .i64 (IntKind.i64.wrap (1 + x8.1)))]) (S' := St w0 Φ_13 [(b_2, .cells #[.string p1, .int .i64 x1.1, u2, u3, (.slice none 0 0)] 40 (0, 0)), (b_1, .cells #[.string (⟨#[]⟩ : ByteArray), .int .i64 0, .slice none 0 0, .slice none 0 0, .slice none 0 0] 40 (0, 0))] [[], ob (.slice none 0 0), [pb0], ob u3, ob v9, D5, ob u2]) ⟨rfl, rfl, rfl, rfl, rfl, trivial⟩ (fun w1 hw => (hw.sel (js := [0, 0, 0, 0, 0, 0, 0]) rfl).selO (js := [0, 0]) rfl) ?_
   refine loop_ind (σ := Hp × (List TAct) × Value × List Nat × Int × Int × Int) (fun s => [(0, .pointer (some ⟨pb0, 0, none⟩)), (4, .pointer (some ⟨b_1, 0, none⟩)), (5, .pointer (some ⟨b_2, 0, none⟩)), (7, v9), (9, .int .i64 s.2.2.2.2.1)]) (fun s => St w0 s.1 [(b_2, .cells #[.string p1, .int .i64 x1.1, u2, u3, s.2.2.1] 40 (0, 0)), (b_1, .cells #[.string (⟨#[]⟩ : ByteArray), .int .i64 0, .slice none 0 0, .slice none 0 0, .slice none 0 0] 40 (0, 0))] [s.2.2.2.1, ob s.2.2.1, [pb0], ob u3, ob v9, D5, ob u2]) (fun m s => m_s_l9Draw_l4 N p0 p1 x1 s5 x6 s8 m s.2.1 s.2.2.2.2.1 s.2.2.2.2.2.1 s.2.2.2.2.2.2 = some r ∧ (OSl OTPat 171 3 s.1 D5 u2 s5) ∧ (OSl RS 9 1 s.1 [] v9 x6) ∧ (OSl RTCond 139 11 s.1 [] u3 s8) ∧ (OSl OTAct 143 5 s.1 s.2.2.2.1 s.2.2.1 s.2.1) ∧ (s.1 pb0 = some (.cells #[pv0_0, .int .i64 s.2.2.2.2.2.1, .int .i64 s.2.2.2.2.2.2] 112 (0, 0))) ∧ (RSl (RI .u8) 1 s.1 pG0_0 pv0_0 p0.b)) (fun s hm => none_ne (show (none : Option (TRule × Tl1Cur)) = some r from hm.1)) (fun n4 ih4 s hm => ?_) N (Φ_13, ([] : List TAct), (.slice none 0 0), [], IntKind.i64.wrap (1 + x8.1), x8.2.i, x8.2.h) ⟨h, k4, h9, k7, k9, h11, ph0_0⟩
   obtain ⟨Φ_14, s11, u4, D6, s12, s13, s14⟩ := s
   obtain ⟨h, k4, h9, k7, k10, k11, ph0_0⟩ := hm
   dsimp only at h k4 h9 k7 k10 k11 ph0_0 ⊢
   unfold m_s_l9Draw_l4 at h
   refine sq <| sr <| la rfl <| la rfl <| en ?_
   refine cdh rfl h (fun c2 h => ?_) (fun c2 h => ?_)
   ·refine WT.skip <| sq <| blk <| sr <| la rfl <| ld5 Tn_40 0 rfl ?_
    obtain ⟨x9, hx9, h⟩ := bs h
    refine lp (p_call Fun_89 rfl (fun w1 hw => m_s_PosCount_ok hw.fro N (⟨p1, x1.1, s5, s8, s11⟩ : TRule) (k4.rslG OTPat.gives) k7.rsl (k10.rslG OTAct.gives) hx9)) rfl ?_
    obtain ⟨x10, hx10, h⟩ := bs h
    refine lc (k_call (js := [2]) (R := [D6, ob u4, ob u3, ob v9, D5, ob u2]) Fun_125 rfl rfl (fun w1 hw ap hl => m_s_l8Draw_ok hw.fro N (⟨p0.b, s13, s14⟩ : Tl1Cur) x9 ph0_0 k11 (ap.o pa0_0) ap.nd hl hx10)) rfl (fun v13 Φ_15 F8 q11 => ?_)
    obtain ⟨ap9, fr11, v14, rfl, rfl, h12, e7, h13⟩ := q11
    replace ph0_0 := ph0_0.frame RI.lasts fr11 (ap9.o pa0_0)
    replace k4 := k4.frame OTPat.lasts fr11 (ap9.r (i := 5) rfl) (ap9.r (i := 4) rfl)
    replace h9 := h9.frame RS.lasts fr11 (ap9.r (i := 3) rfl) (Dj.nil _)
    replace k7 := k7.frame RTCond.lasts fr11 (ap9.r (i := 2) rfl) (Dj.nil _)
    replace k10 := k10.frame OTAct.lasts fr11 (ap9.r (i := 1) rfl) (ap9.r (i := 0) rfl)
    refine ln (nz Zr_143) rfl (fun b_3 => ?_)
    refine soN 0 Sz_143 rfl ⟨rfl, rfl, h12.one, rfl, rfl, trivial⟩ rfl ?_
    refine en <| sq <| sr <| la rfl <| en <| blk ?_
    refine loop_in (σ := Hp × (List TExpr) × Int) (fun s => [(0, .pointer (some ⟨pb0, 0, none⟩)), (4, .pointer (some ⟨b_1, 0, none⟩)), (5, .pointer (some ⟨b_2, 0, none⟩)), (7, v9), (9, .int .i64 s12), (10, .pointer (some ⟨b_3, 0, none⟩)), (11, .int .i64 s.2.2)]) (fun s => St w0 s.1 [(b_3, .cells #[.int .i64 x10.1.Kind, .string x10.1.Name, v14, .int .i64 x10.1.N, .string x10.1.Undo] 143 (0, 0)), (b_2, .cells #[.string p1, .int .i64 x1.1, u2, u3, u4] 40 (0, 0)), (b_1, .cells #[.string (⟨#[]⟩ : ByteArray), .int .i64 0, .slice none 0 0, .slice none 0 0, .slice none 0 0] 40 (0, 0))] [ob v14, [pb0], D6, ob u4, ob u3, ob v9, D5, ob u2]) (fun m s => m_s_l9Draw_l5 N x6 s11 s12 (m_s_l9Draw_l4 N p0 p1 x1 s5 x6 s8 n4) x10 m s.2.1 s.2.2 = some r ∧ (OSl OTPat 171 3 s.1 D5 u2 s5) ∧ (OSl RS 9 1 s.1 [] v9 x6) ∧ (OSl RTCond 139 11 s.1 [] u3 s8) ∧ (OSl OTAct 143 5 s.1 D6 u4 s11) ∧ (OSl RTExpr 191 11 s.1 [] v14 s.2.1) ∧ (s.1 pb0 = some (.cells #[pv0_0, .int .i64 x10.2.i, .int .i64 x10.2.h] 112 (0, 0))) ∧ (RSl (RI .u8) 1 s.1 pG0_0 pv0_0 p0.b)) (Φ_15, x10.1.Args, 0) N ⟨h, k4, h9, k7, k10, h12, h13, ph0_0⟩ ⟨rfl, rfl, rfl, rfl, rfl, rfl, rfl, trivial⟩ (fun w1 hw => (hw.sel (js := [0, 0, 0, 0, 0, 0, 0, 0]) rfl).selO (js := [0, 0, 0]) rfl) (fun s hm => none_ne hm.1) (fun n5 ih5 s hm => ?_)
    obtain ⟨Φ_16, s15, s16⟩ := s
    obtain ⟨h, k4, h9, k7, k10, k12, k13, ph0_0⟩ := hm
    dsimp only at h k4 h9 k7 k10 k12 k13 ph0_0 ⊢
    unfold m_s_l9Draw_l5 at h
    refine sq <| sr <| la rfl <| lf Fld_143_2 rfl rfl rfl <| lo T1_141 0 rfl <| lq (q_lenR Sl_141 rfl rfl k12.rsl) rfl <| la rfl <| en ?_
    refine cdh rfl h (fun c3 h => ?_) (fun c3 h => ?_)
    ·refine WT.skip <| sq <| blk <| sq ?_
     obtain ⟨x11, hx11, h⟩ := bs h
     obtain ⟨cs1, F9, h14, r1⟩ := k12.focusF RTExpr.flat hx11
     obtain ⟨rfl, -⟩ := r1
     refine WT.mix (Kn Φ_16 (ob u3 ++ (ob u4 ++ ob v14)) [(b_3, .cells #[.int .i64 x10.1.Kind, .string x10.1.Name, v14, .int .i64 x10.1.N, .string x10.1.Undo] 143 (0, 0)), (b_2, .cells #[.string p1, .int .i64 x1.1, u2, u3, u4] 40 (0, 0)), (b_1, .cells #[.string (⟨#[]⟩ : ByteArray), .int .i64 0, .slice none 0 0, .slice none 0 0, .slice none 0 0] 40 (0, 0))]) (fun i => match i with | 13 => false | _ => true) mixed (fun _ h => h.drew) ?_
     refine mq 0 rfl (by kernel_rfl) (kn Kf.id (ai3 0 1 2 rfl rfl rfl)) (q_fieldAddr Fld_143_2 rfl) rfl <| mq 1 rfl (by kernel_rfl) (kn Kf.id (ai3 0 1 2 rfl rfl rfl)) (q_load1 T1_141 rfl (fun w1 hw => hw.rgO (i := 0) rfl 2 1 [v14] rfl)) rfl <| ma 2 rfl (by kernel_rfl) (kn Kf.id (ai3 0 1 2 rfl rfl rfl)) rfl <| mq 3 rfl (by kernel_rfl) (kn Kf.id (ai3 0 1 2 rfl rfl rfl)) (q_fieldAddr Fld_143_2 rfl) rfl <| mq 4 rfl (by kernel_rfl) (kn Kf.id (ai3 0 1 2 rfl rfl rfl)) (q_load1 T1_141 rfl (fun w1 hw => hw.rgO (i := 0) rfl 2 1 [v14] rfl)) rfl ?_
     refine ma 5 rfl (by kernel_rfl) (kn Kf.id (ai3 0 1 2 rfl rfl rfl)) rfl <| mq 6 rfl (by kernel_rfl) (kn Kf.id (ai3 0 1 2 rfl rfl rfl)) (q_indexAddrH Sl_141 rfl rfl h14 hx11) rfl <| mq 7 rfl (by kernel_rfl) (kn Kf.id (ai3 0 1 2 rfl rfl rfl)) (q_fieldAddr Fld_191_1 rfl) rfl <| mq 8 rfl (by kernel_rfl) (kn Kf.id (ai3 0 1 2 rfl rfl rfl)) (q_loadN Tn_137 rfl (fun w1 hw => hw.rg (List.mem_append.2 (.inr (List.mem_append.2 (.inr h14.hb)))) (h14.rg.of_eq 1 5 rfl rfl : rg _ _ _ [.int .i64 x11.L.K, .string x11.L.S, .int .i64 x11.L.V.K, .int .i64 x11.L.V.N, .string x11.L.V.S])) rfl) rfl ?_
     refine ma 9 rfl (by kernel_rfl) (kn Kf.id (ai3 0 1 2 rfl rfl rfl)) rfl ?_
     obtain ⟨x12, hx12, h⟩ := bs h
     refine WM.one 10 (by kernel_rfl) (mp rfl (fun _ w1 hw => Kn.of Kf.id (ai3 0 1 2 rfl rfl rfl) hw) (p_call Fun_124 rfl (fun w1 hw => m_s_l9Fit_ok hw.fro N x11.L x6 h9.rsl hx12)) rfl ?_)
     refine mqT 11 [12, 13] rfl (by kernel_rfl) (kn Kf.id (ai3 0 1 2 rfl rfl rfl)) (q_indexAddrH Sl_141 rfl rfl h14 hx11) rfl <| mq 12 rfl (by kernel_rfl) (kn Kf.id (ai3 0 1 2 rfl rfl rfl)) (q_fieldAddr Fld_191_1 rfl) rfl ?_
     refine WM.one 13 (by kernel_rfl) (mu rfl (fun hc => by cases hc) (u_setH (js := [0]) (Rr := [[pb0], D6, ob u4, ob u3, ob v9, D5, ob u2]) (o := 1) (vs := [.int .i64 x12.K, .string x12.S, .int .i64 x12.V.K, .int .i64 x12.V.N, .string x12.V.S]) (cs' := [.string x11.Op, .int .i64 x12.K, .string x12.S, .int .i64 x12.V.K, .int .i64 x12.V.N, .string x12.V.S, .int .i64 x11.R.K, .string x11.R.S, .int .i64 x11.R.V.K, .int .i64 x11.R.V.N, .string x11.R.V.S]) RTExpr.lasts Sz_137 rfl rfl rfl rfl ⟨rfl, rfl, rfl, rfl, rfl, trivial⟩ rfl h14 rfl rfl (fun ap => (Dj.nil _))) rfl (fun Φ_17 D8 q12 => ?_))
     obtain ⟨⟨ap10, fr12⟩, h15⟩ := q12
     replace ph0_0 := ph0_0.frame RI.lasts fr12 (ap10.o pa0_0)
     replace k4 := k4.frame OTPat.lasts fr12 (ap10.r (i := 6) rfl) (ap10.r (i := 5) rfl)
     replace h9 := h9.frame RS.lasts fr12 (ap10.r (i := 4) rfl) (Dj.nil _)
     replace k7 := k7.frame RTCond.lasts fr12 (ap10.r (i := 3) rfl) (Dj.nil _)
     replace k10 := k10.frame OTAct.lasts fr12 (ap10.r (i := 2) rfl) (ap10.r (i := 1) rfl)
     replace k13 := fr12 _ _ ((ap10.r (i := 0) rfl) _ (by simp)) k13
     refine WM.nil (by kernel_rfl) <| sr <| lf Fld_143_2 rfl rfl rfl <| lo T1_141 0 rfl <| la rfl <| lq (q_indexAddrH Sl_141 rfl rfl h15 hx11) rfl <| lf Fld_191_0 rfl rfl rfl <| lg 0 T1_9 h15.rg rfl rfl <| la rfl <| en ?_
     refine cdh rfl h (fun c4 h => ?_) (fun c4 h => ?_)
     ·refine WT.mix (Kn Φ_17 (ob u3 ++ (ob u4 ++ ob v14)) [(b_3, .cells #[.int .i64 x10.1.Kind, .string x10.1.Name, v14, .int .i64 x10.1.N, .string x10.1.Undo] 143 (0, 0)), (b_2, .cells #[.string p1, .int .i64 x1.1, u2, u3, u4] 40 (0, 0)), (b_1, .cells #[.string (⟨#[]⟩ : ByteArray), .int .i64 0, .slice none 0 0, .slice none 0 0, .slice none 0 0] 40 (0, 0))]) (fun i => match i with | 13 => false | _ => true) mixed (fun _ h => h.drew) ?_
      refine mq 0 rfl (by kernel_rfl) (kn Kf.id (ai3 0 1 2 rfl rfl rfl)) (q_fieldAddr Fld_143_2 rfl) rfl <| mq 1 rfl (by kernel_rfl) (kn Kf.id (ai3 0 1 2 rfl rfl rfl)) (q_load1 T1_141 rfl (fun w1 hw => hw.rgO (i := 0) rfl 2 1 [v14] rfl)) rfl <| ma 2 rfl (by kernel_rfl) (kn Kf.id (ai3 0 1 2 rfl rfl rfl)) rfl <| mq 3 rfl (by kernel_rfl) (kn Kf.id (ai3 0 1 2 rfl rfl rfl)) (q_fieldAddr Fld_143_2 rfl) rfl <| mq 4 rfl (by kernel_rfl) (kn Kf.id (ai3 0 1 2 rfl rfl rfl)) (q_load1 T1_141 rfl (fun w1 hw => hw.rgO (i := 0) rfl 2 1 [v14] rfl)) rfl ?_
      refine ma 5 rfl (by kernel_rfl) (kn Kf.id (ai3 0 1 2 rfl rfl rfl)) rfl <| mq 6 rfl (by kernel_rfl) (kn Kf.id (ai3 0 1 2 rfl rfl rfl)) (q_indexAddrH Sl_141 rfl rfl h15 hx11) rfl <| mq 7 rfl (by kernel_rfl) (kn Kf.id (ai3 0 1 2 rfl rfl rfl)) (q_fieldAddr Fld_191_2 rfl) rfl <| mq 8 rfl (by kernel_rfl) (kn Kf.id (ai3 0 1 2 rfl rfl rfl)) (q_loadN Tn_137 rfl (fun w1 hw => hw.rg (List.mem_append.2 (.inr (List.mem_append.2 (.inr h15.hb)))) (h15.rg.of_eq 6 5 rfl rfl : rg _ _ _ [.int .i64 x11.R.K, .string x11.R.S, .int .i64 x11.R.V.K, .int .i64 x11.R.V.N, .string x11.R.V.S])) rfl) rfl ?_
      refine ma 9 rfl (by kernel_rfl) (kn Kf.id (ai3 0 1 2 rfl rfl rfl)) rfl ?_
      obtain ⟨x13, hx13, h⟩ := bs h
      refine WM.one 10 (by kernel_rfl) (mp rfl (fun _ w1 hw => Kn.of Kf.id (ai3 0 1 2 rfl rfl rfl) hw) (p_call Fun_124 rfl (fun w1 hw => m_s_l9Fit_ok hw.fro N x11.R x6 h9.rsl hx13)) rfl ?_)
      refine mqT 11 [12, 13] rfl (by kernel_rfl) (kn Kf.id (ai3 0 1 2 rfl rfl rfl)) (q_indexAddrH Sl_141 rfl rfl h15 hx11) rfl <| mq 12 rfl (by kernel_rfl) (kn Kf.id (ai3 0 1 2 rfl rfl rfl)) (q_fieldAddr Fld_191_2 rfl) rfl ?_
      refine WM.one 13 (by kernel_rfl) (mu rfl (fun hc => by cases hc) (u_setH (js := [0]) (Rr := [[pb0], D6, ob u4, ob u3, ob v9, D5, ob u2]) (o := 6) (vs := [.int .i64 x13.K, .string x13.S, .int .i64 x13.V.K, .int .i64 x13.V.N, .string x13.V.S]) (cs' := [.string x11.Op, .int .i64 x12.K, .string x12.S, .int .i64 x12.V.K, .int .i64 x12.V.N, .string x12.V.S, .int .i64 x13.K, .string x13.S, .int .i64 x13.V.K, .int .i64 x13.V.N, .string x13.V.S]) RTExpr.lasts Sz_137 rfl rfl rfl rfl ⟨rfl, rfl, rfl, rfl, rfl, trivial⟩ rfl h15 rfl rfl (fun ap => (Dj.nil _))) rfl (fun Φ_18 D9 q13 => ?_))
      obtain ⟨⟨ap11, fr13⟩, h16⟩ := q13
      replace ph0_0 := ph0_0.frame RI.lasts fr13 (ap11.o pa0_0)
      replace k4 := k4.frame OTPat.lasts fr13 (ap11.r (i := 6) rfl) (ap11.r (i := 5) rfl)
      replace h9 := h9.frame RS.lasts fr13 (ap11.r (i := 4) rfl) (Dj.nil _)
      replace k7 := k7.frame RTCond.lasts fr13 (ap11.r (i := 3) rfl) (Dj.nil _)
      replace k10 := k10.frame OTAct.lasts fr13 (ap11.r (i := 2) rfl) (ap11.r (i := 1) rfl)
      replace k13 := fr13 _ _ ((ap11.r (i := 0) rfl) _ (by simp)) k13
      refine WM.nil (by kernel_rfl) <| ib <| rgn <| la rfl <| la rfl <| la rfl <| en ?_
      have h17 := h16.unfocusF RTExpr.flat (cs := [.string x11.Op, .int .i64 x12.K, .string x12.S, .int .i64 x12.V.K, .int .i64 x12.V.N, .string x12.V.S, .int .i64 x13.K, .string x13.S, .int .i64 x13.V.K, .int .i64 x13.V.N, .string x13.V.S]) (x' := (⟨x11.Op, x12, x13⟩ : TExpr)) ⟨rfl, rfl⟩
      exact lback (ih5 (Φ_18, (s15.set s16.toNat (⟨x11.Op, x12, x13⟩ : TExpr)), IntKind.i64.wrap (s16 + 1)) ⟨h, k4, h9, k7, k10, h17, k13, ph0_0⟩) ⟨rfl, rfl, rfl, rfl, rfl, rfl, rfl, trivial⟩ (fun w1 hw => (hw.sel (js := [0, 0, 0, 0, 0, 0, 0, 0]) rfl).selO (js := [0, 0, 0]) rfl)
     refine WT.skip <| ib <| rgn <| la rfl <| la rfl <| la rfl <| en ?_
     have h18 := h15.unfocusF RTExpr.flat (cs := [.string x11.Op, .int .i64 x12.K, .string x12.S, .int .i64 x12.V.K, .int .i64 x12.V.N, .string x12.V.S, .int .i64 x11.R.K, .string x11.R.S, .int .i64 x11.R.V.K, .int .i64 x11.R.V.N, .string x11.R.V.S]) (x' := (⟨x11.Op, x12, x11.R⟩ : TExpr)) ⟨rfl, rfl⟩
     exact lback (ih5 (Φ_17, (s15.set s16.toNat (⟨x11.Op, x12, x11.R⟩ : TExpr)), IntKind.i64.wrap (s16 + 1)) ⟨h, k4, h9, k7, k10, h18, k13, ph0_0⟩) ⟨rfl, rfl, rfl, rfl, rfl, rfl, rfl, trivial⟩ (fun w1 hw => (hw.sel (js := [0, 0, 0, 0, 0, 0, 0, 0]) rfl).selO (js := [0, 0, 0]) rfl)
    refine xt rfl <| rgn <| lf Fld_40_4 rfl rfl rfl <| lo T1_38 1 rfl <| ld5 Tn_143 0 rfl ?_
    have rc3 : RC OTAct 5 Φ_16 ([(ob v14 ++ [])] : List (List Nat)) [.int .i64 x10.1.Kind, .string x10.1.Name, v14, .int .i64 x10.1.N, .string x10.1.Undo] ([(⟨x10.1.Kind, x10.1.Name, s15, x10.1.N, x10.1.Undo⟩ : TAct)] : List TAct) := RC.cons (c := [.int .i64 x10.1.Kind, .string x10.1.Name, v14, .int .i64 x10.1.N, .string x10.1.Undo]) (cells := []) ⟨v14, rfl, rfl, k12⟩ rfl (RC.nil _ _ _)
    refine le' (e_lit (vs := [(0, .agg [.int .i64 x10.1.Kind, .string x10.1.Name, v14, .int .i64 x10.1.N, .string x10.1.Undo].toArray)]) (C := #[.int .i64 x10.1.Kind, .string x10.1.Name, v14, .int .i64 x10.1.N, .string x10.1.Undo]) OTAct.lasts Sl_38 Zr_143 rfl rfl rfl rfl (fill_made MC_143_1 (fill_cons (C' := [.int .i64 x10.1.Kind, .string x10.1.Name, v14, .int .i64 x10.1.N, .string x10.1.Undo]) rfl rfl rfl rfl rfl (fill_nil))) rfl rc3 rfl (RC.kn OTAct.knows rc3)) rfl (fun v15 Φ_19 D10 q14 => ?_)
    obtain ⟨fr14, h19⟩ := q14
    replace h19 : OSl OTAct 143 5 Φ_19 ((ob v14 ++ [])) v15 ([(⟨x10.1.Kind, x10.1.Name, s15, x10.1.N, x10.1.Undo⟩ : TAct)] : List TAct) := by simpa [List.append_assoc] using h19
    replace ph0_0 := ph0_0.frame RI.lasts fr14 (Dj.empty _)
    replace k4 := k4.frame OTPat.lasts fr14 (Dj.empty _) (Dj.empty _)
    replace h9 := h9.frame RS.lasts fr14 (Dj.empty _) (Dj.empty _)
    replace k7 := k7.frame RTCond.lasts fr14 (Dj.empty _) (Dj.empty _)
    replace k10 := k10.frame OTAct.lasts fr14 (Dj.empty _) (Dj.empty _)
    replace k13 := fr14 _ _ (by simp) k13
    refine WL.conv (S' := St w0 Φ_19 [(b_3, .cells #[.int .i64 x10.1.Kind, .string x10.1.Name, v14, .int .i64 x10.1.N, .string x10.1.Undo] 143 (0, 0)), (b_2, .cells #[.string p1, .int .i64 x1.1, u2, u3, u4] 40 (0, 0)), (b_1, .cells #[.string (⟨#[]⟩ : ByteArray), .int .i64 0, .slice none 0 0, .slice none 0 0, .slice none 0 0] 40 (0, 0))] [((ob v14 ++ [])), ob v15, [pb0], D6, ob u4, ob u3, ob v9, D5, ob u2]) (fun w1 hw => hw.merge (js := [1]) rfl (SP.eq (by simp [List.append_assoc, ob_nil]))) ?_
    obtain ⟨x14, hx14, h⟩ := bs h
    refine le' (e_appO OTAct.lasts OTAct.one Sl_38 Ei_143 rfl rfl rfl rfl rfl (js := [4]) (Rr := [((ob v14 ++ [])), ob v15, [pb0], D6, ob u3, ob v9, D5, ob u2]) rfl k10 h19 (fun ap => (ap.r (i := 3) rfl)) (fun ap => (ap.r (i := 0) rfl)) hx14) rfl (fun v16 Φ_20 D11 q15 => ?_)
    obtain ⟨⟨ap12, fr15⟩, h20⟩ := q15
    replace ph0_0 := ph0_0.frame RI.lasts fr15 (ap12.o pa0_0)
    replace k4 := k4.frame OTPat.lasts fr15 (ap12.r (i := 7) rfl) (ap12.r (i := 6) rfl)
    replace h9 := h9.frame RS.lasts fr15 (ap12.r (i := 5) rfl) (Dj.nil _)
    replace k7 := k7.frame RTCond.lasts fr15 (ap12.r (i := 4) rfl) (Dj.nil _)
    replace k13 := fr15 _ _ ((ap12.r (i := 2) rfl) _ (by simp)) k13
    refine WL.conv (S' := St w0 Φ_20 [(b_3, .cells #[.int .i64 x10.1.Kind, .string x10.1.Name, v14, .int .i64 x10.1.N, .string x10.1.Undo] 143 (0, 0)), (b_2, .cells #[.string p1, .int .i64 x1.1, u2, u3, u4] 40 (0, 0)), (b_1, .cells #[.string (⟨#[]⟩ : ByteArray), .int .i64 0, .slice none 0 0, .slice none 0 0, .slice none 0 0] 40 (0, 0))] [(D6 ++ ((ob v14 ++ []))), ob v16, ob v15, [pb0], ob u3, ob v9, D5, ob u2]) (fun w1 hw => hw.merge (js := [4, 1]) rfl (SP.eq (by simp))) ?_
    refine lf Fld_40_4 rfl rfl rfl <| so1 1 Sz_38 rfl h20.one ?_
    refine en <| ib <| rgn <| la rfl <| la rfl <| la rfl <| en ?_
    exact lback (ih4 (Φ_20, x14, v16, (D6 ++ ((ob v14 ++ []))), IntKind.i64.wrap (s12 - 1), x10.2.i, x10.2.h) ⟨h, k4, h9, k7, h20, k13, ph0_0⟩) ⟨rfl, rfl, rfl, rfl, rfl, trivial⟩ (fun w1 hw => (hw.sel (js := [0, 0, 1, 1, 1, 1, 1]) rfl).selO (js := [1, 1]) rfl)
   refine xt rfl <| sr <| ld5 Tn_40 0 rfl <| soN 1 Sz_40 rfl ⟨rfl, rfl, k4.one, k7.one, k10.one, trivial⟩ rfl ?_
   refine en ?_
   refine WT.ret Tryz.func74 (resOk.one (rv_cell Tn_40 rfl (fun w1 hw => hw.rgO (i := 1) rfl 0 5 [.string p1, .int .i64 x1.1, u2, u3, u4] rfl) rfl)) (fun w1 hw => ?_)
   subst hb0
   cases h
   refine postG_of_St (js := [6, 5, 3, 1, 0, 0]) hw rfl ⟨u2, D5, u3, u4, D6, rfl, rfl, k4, k7, k10, rfl, k11⟩
  refine cdh rfl h (fun c5 h => ?_) (fun c5 h => ?_)
  ·refine sr <| la rfl ?_
   obtain ⟨x15, hx15, h⟩ := bs h
   refine lc (k_call (js := [1]) (R := [ob (.slice none 0 0), ob v9, D5, ob u2]) Fun_123 rfl rfl (fun w1 hw ap hl => m_s_l7Draw_ok hw.fro N (⟨p0.b, x7.2.i, x7.2.h⟩ : Tl1Cur) ph0_0 h10 (ap.o pa0_0) ap.nd hl hx15)) rfl (fun v17 Φ_21 F10 q16 => ?_)
   obtain ⟨ap13, fr16, rfl, rfl, e8, h21⟩ := q16
   replace ph0_0 := ph0_0.frame RI.lasts fr16 (ap13.o pa0_0)
   replace k4 := k4.frame OTPat.lasts fr16 (ap13.r (i := 3) rfl) (ap13.r (i := 2) rfl)
   replace h9 := h9.frame RS.lasts fr16 (ap13.r (i := 1) rfl) (Dj.nil _)
   replace k6 := k6.frame RTCond.lasts fr16 (ap13.r (i := 0) rfl) (Dj.nil _)
   refine ln (nz Zr_139) rfl (fun b_4 => ?_)
   refine soN 0 Sz_139 rfl ⟨rfl, rfl, rfl, rfl, rfl, rfl, rfl, rfl, rfl, rfl, rfl, trivial⟩ rfl ?_
   refine en <| sr <| lf Fld_139_1 rfl rfl rfl <| ld5 Tn_137 0 rfl <| la rfl ?_
   obtain ⟨x16, hx16, h⟩ := bs h
   refine lp (p_call Fun_124 rfl (fun w1 hw => m_s_l9Fit_ok hw.fro N x15.1.L x6 h9.rsl hx16)) rfl <| lf Fld_139_1 rfl rfl rfl <| soN 0 Sz_137 rfl ⟨rfl, rfl, rfl, rfl, rfl, trivial⟩ rfl ?_
   refine en <| sr <| lf Fld_139_2 rfl rfl rfl <| ld5 Tn_137 0 rfl <| la rfl ?_
   obtain ⟨x17, hx17, h⟩ := bs h
   refine lp (p_call Fun_124 rfl (fun w1 hw => m_s_l9Fit_ok hw.fro N x15.1.R x6 h9.rsl hx17)) rfl <| lf Fld_139_2 rfl rfl rfl <| soN 0 Sz_137 rfl ⟨rfl, rfl, rfl, rfl, rfl, trivial⟩ rfl ?_
   refine en <| rgn <| lf Fld_40_3 rfl rfl rfl <| lo T1_37 1 rfl <| ld11 Tn_139 0 rfl ?_
   have rc4 : RC RTCond 11 Φ_21 ([[]] : List (List Nat)) [.int .i64 x15.1.Op, .int .i64 x16.K, .string x16.S, .int .i64 x16.V.K, .int .i64 x16.V.N, .string x16.V.S, .int .i64 x17.K, .string x17.S, .int .i64 x17.V.K, .int .i64 x17.V.N, .string x17.V.S] ([(⟨x15.1.Op, x16, x17⟩ : TCond)] : List TCond) := RC.cons (c := [.int .i64 x15.1.Op, .int .i64 x16.K, .string x16.S, .int .i64 x16.V.K, .int .i64 x16.V.N, .string x16.V.S, .int .i64 x17.K, .string x17.S, .int .i64 x17.V.K, .int .i64 x17.V.N, .string x17.V.S]) (cells := []) ⟨rfl, rfl⟩ rfl (RC.nil _ _ _)
   refine le' (e_lit (vs := [(0, .agg [.int .i64 x15.1.Op, .int .i64 x16.K, .string x16.S, .int .i64 x16.V.K, .int .i64 x16.V.N, .string x16.V.S, .int .i64 x17.K, .string x17.S, .int .i64 x17.V.K, .int .i64 x17.V.N, .string x17.V.S].toArray)]) (C := #[.int .i64 x15.1.Op, .int .i64 x16.K, .string x16.S, .int .i64 x16.V.K, .int .i64 x16.V.N, .string x16.V.S, .int .i64 x17.K, .string x17.S, .int .i64 x17.V.K, .int .i64 x17.V.N, .string x17.V.S]) RTCond.lasts Sl_37 Zr_139 rfl rfl rfl rfl (fill_made MC_139_1 (fill_cons (C' := [.int .i64 x15.1.Op, .int .i64 x16.K, .string x16.S, .int .i64 x16.V.K, .int .i64 x16.V.N, .string x16.V.S, .int .i64 x17.K, .string x17.S, .int .i64 x17.V.K, .int .i64 x17.V.N, .string x17.V.S]) rfl rfl rfl rfl rfl (fill_nil))) rfl rc4 rfl (by simpa using Kw.nil)) rfl (fun v18 Φ_22 D12 q17 => ?_)
   obtain ⟨fr17, h22⟩ := q17
   replace h22 : OSl RTCond 139 11 Φ_22 [] v18 ([(⟨x15.1.Op, x16, x17⟩ : TCond)] : List TCond) := by simpa using h22
   replace ph0_0 := ph0_0.frame RI.lasts fr17 (Dj.empty _)
   replace k4 := k4.frame OTPat.lasts fr17 (Dj.empty _) (Dj.empty _)
   replace h9 := h9.frame RS.lasts fr17 (Dj.empty _) (Dj.empty _)
   replace k6 := k6.frame RTCond.lasts fr17 (Dj.empty _) (Dj.empty _)
   replace h21 := fr17 _ _ (by simp) h21
   obtain ⟨x18, hx18, h⟩ := bs h
   refine le' (e_appF RTCond.lasts RTCond.one RTCond.flat Sl_37 Ei_139 rfl rfl rfl rfl rfl (js := [2]) (Rr := [ob v18, [pb0], ob v9, D5, ob u2]) rfl k6 h22.rsl hx18) rfl (fun v19 Φ_23 D13 q18 => ?_)
   obtain ⟨⟨ap14, fr18⟩, h23⟩ := q18
   replace ph0_0 := ph0_0.frame RI.lasts fr18 (ap14.o pa0_0)
   replace k4 := k4.frame OTPat.lasts fr18 (ap14.r (i := 4) rfl) (ap14.r (i := 3) rfl)
   replace h9 := h9.frame RS.lasts fr18 (ap14.r (i := 2) rfl) (Dj.nil _)
   replace h21 := fr18 _ _ ((ap14.r (i := 1) rfl) _ (by simp)) h21
   refine lf Fld_40_3 rfl rfl rfl <| so1 1 Sz_37 rfl h23.one ?_
   refine en ?_
   exact wto (K (Φ_23, x18, v19, x15.2.i, x15.2.h) ⟨h, k4, h9, h23, h21, ph0_0⟩) ⟨rfl, rfl, rfl, rfl, trivial⟩ (fun w1 hw => (hw.sel (js := [0, 1, 1, 1, 1]) rfl).selO (js := [1, 1]) rfl)
  refine WT.skip ?_
  exact wto (K (Φ_11, ([] : List TCond), (.slice none 0 0), x7.2.i, x7.2.h) ⟨h, k4, h9, k6, h10, ph0_0⟩) ⟨rfl, rfl, rfl, rfl, trivial⟩ (fun w1 hw => (hw.sel (js := [0, 0, 0, 0, 0]) rfl).selO (js := [0, 0]) rfl)
 refine cdh rfl h (fun c6 h => ?_) (fun c6 h => ?_)
 ·refine WT.mix (Kn Φ_8 [] [(b_2, .cells #[.string p1, .int .i64 x1.1, u1, .slice none 0 0, .slice none 0 0] 40 (0, 0)), (b_1, .cells #[.string (⟨#[]⟩ : ByteArray), .int .i64 0, .slice none 0 0, .slice none 0 0, .slice none 0 0] 40 (0, 0))]) (fun i => match i with | 7 => false | _ => true) mixed (fun _ h => h.drew) <| mq 0 rfl (by kernel_rfl) (kn Kf.nil (ai2 0 1 rfl rfl)) (q_fieldAddr Fld_40_2 rfl) rfl <| mq 1 rfl (by kernel_rfl) (kn Kf.nil (ai2 0 1 rfl rfl)) (q_load1 T1_36 rfl (fun w1 hw => hw.rgO (i := 0) rfl 2 1 [u1] rfl)) rfl ?_
  refine ma 2 rfl (by kernel_rfl) (kn Kf.nil (ai2 0 1 rfl rfl)) rfl ?_
  obtain ⟨x19, hx19, h⟩ := bs h
  refine WM.one 3 (by kernel_rfl) (mc rfl (fun _ v Φx D w1 hq hw => Kn.of Kf.nil (ai2 0 1 rfl rfl) hw) (k_call (js := [0]) (R := [D2, ob u1]) Fun_122 rfl rfl (fun w1 hw ap hl => m_s_l6Draw_ok hw.fro N (⟨p0.b, x5.2.i, x5.2.h⟩ : Tl1Cur) true ph0_0 h8 (ap.o pa0_0) ap.nd hl hx19)) rfl (fun v20 Φ_24 F11 q19 => ?_))
  obtain ⟨ap15, fr19, v21, rfl, rfl, h24, e9, h25⟩ := q19
  replace ph0_0 := ph0_0.frame RI.lasts fr19 (ap15.o pa0_0)
  replace k2 := k2.frame OTPat.lasts fr19 (ap15.r (i := 1) rfl) (ap15.r (i := 0) rfl)
  have rc5 : RC OTPat 3 Φ_24 ([(ob v21 ++ [])] : List (List Nat)) [.string x19.1.Kind, v21, .bool x19.1.Not] ([x19.1] : List TPat) := RC.cons (c := [.string x19.1.Kind, v21, .bool x19.1.Not]) (cells := []) ⟨v21, rfl, rfl, h24⟩ rfl (RC.nil _ _ _)
  refine WM.one 4 (by kernel_rfl) (me rfl (fun _ v Φx D w1 hq hw => Kn.of Kf.nil (ai2 0 1 rfl rfl) hw) (e_lit (vs := [(0, .agg [.string x19.1.Kind, v21, .bool x19.1.Not].toArray)]) (C := #[.string x19.1.Kind, v21, .bool x19.1.Not]) OTPat.lasts Sl_36 Zr_171 rfl rfl rfl rfl (fill_made MC_171_1 (fill_cons (C' := [.string x19.1.Kind, v21, .bool x19.1.Not]) rfl rfl rfl rfl rfl (fill_nil))) rfl rc5 rfl (RC.kn OTPat.knows rc5)) rfl (fun v22 Φ_25 D14 q20 => ?_))
  obtain ⟨fr20, h26⟩ := q20
  replace h26 : OSl OTPat 171 3 Φ_25 ((ob v21 ++ [])) v22 ([x19.1] : List TPat) := by simpa [List.append_assoc] using h26
  replace ph0_0 := ph0_0.frame RI.lasts fr20 (Dj.empty _)
  replace k2 := k2.frame OTPat.lasts fr20 (Dj.empty _) (Dj.empty _)
  replace h25 := fr20 _ _ (by simp) h25
  refine WM.conv (S' := St w0 Φ_25 [(b_2, .cells #[.string p1, .int .i64 x1.1, u1, .slice none 0 0, .slice none 0 0] 40 (0, 0)), (b_1, .cells #[.string (⟨#[]⟩ : ByteArray), .int .i64 0, .slice none 0 0, .slice none 0 0, .slice none 0 0] 40 (0, 0))] [((ob v21 ++ [])), ob v22, [pb0], D2, ob u1]) (fun w1 hw => hw.merge (js := [1]) rfl (SP.eq (by simp [List.append_assoc, ob_nil]))) ?_
  obtain ⟨x20, hx20, h⟩ := bs h
  refine WM.one 5 (by kernel_rfl) (me rfl (fun _ v Φx D w1 hq hw => Kn.of Kf.nil (ai2 0 1 rfl rfl) hw) (e_appO OTPat.lasts OTPat.one Sl_36 Ei_171 rfl rfl rfl rfl rfl (js := [4]) (Rr := [((ob v21 ++ [])), ob v22, [pb0], D2]) rfl k2 h26 (fun ap => (ap.r (i := 3) rfl)) (fun ap => (ap.r (i := 0) rfl)) hx20) rfl (fun v23 Φ_26 D15 q21 => ?_))
  obtain ⟨⟨ap16, fr21⟩, h27⟩ := q21
  replace ph0_0 := ph0_0.frame RI.lasts fr21 (ap16.o pa0_0)
  replace h25 := fr21 _ _ ((ap16.r (i := 2) rfl) _ (by simp)) h25
  refine WM.conv (S' := St w0 Φ_26 [(b_2, .cells #[.string p1, .int .i64 x1.1, u1, .slice none 0 0, .slice none 0 0] 40 (0, 0)), (b_1, .cells #[.string (⟨#[]⟩ : ByteArray), .int .i64 0, .slice none 0 0, .slice none 0 0, .slice none 0 0] 40 (0, 0))] [(D2 ++ ((ob v21 ++ []))), ob v23, ob v22, [pb0]]) (fun w1 hw => hw.merge (js := [4, 1]) rfl (SP.eq (by simp))) <| mq 6 rfl (by kernel_rfl) (kn Kf.nil (ai2 0 1 rfl rfl)) (q_fieldAddr Fld_40_2 rfl) rfl ?_
  refine WM.one 7 (by kernel_rfl) (ms rfl (fun hc => by cases hc) (s_store (i := 0) (vs := [v23]) (C' := [.string p1, .int .i64 x1.1, v23, .slice none 0 0, .slice none 0 0]) (O' := [(b_2, .cells #[.string p1, .int .i64 x1.1, v23, .slice none 0 0, .slice none 0 0] 40 (0, 0)), (b_1, .cells #[.string (⟨#[]⟩ : ByteArray), .int .i64 0, .slice none 0 0, .slice none 0 0, .slice none 0 0] 40 (0, 0))]) Sz_36 rfl rfl rfl (one_cells h27.one) rfl rfl ⟨h27.one, trivial⟩ rfl rfl) rfl ?_)
  refine WM.nil (by kernel_rfl) ?_
  exact wto (K (Φ_26, x20, v23, (D2 ++ ((ob v21 ++ []))), x19.2.i, x19.2.h) ⟨h, h27, h25, ph0_0⟩) ⟨rfl, rfl, rfl, trivial⟩ (fun w1 hw => (hw.sel (js := [3, 0, 0]) rfl).selO (js := [0, 0]) rfl)
 refine WT.skip ?_
 exact wto (K (Φ_8, s1, u1, D2, x5.2.i, x5.2.h) ⟨h, k2, h8, ph0_0⟩) ⟨rfl, rfl, rfl, trivial⟩ (fun w1 hw => (hw.sel (js := [0, 0, 0]) rfl).selO (js := [0, 0]) rfl)
theorem m_s_l10Draw_ok {Φ : Hp} {w : World} (hΦ : In Φ w) (N : Nat) (p0 : Tl1Cur) {pv0_0 : Value} {pG0_0 : List Nat} {pb0 : Nat} (ph0_0 : RSl (RI .u8) 1 Φ pG0_0 pv0_0 p0.b) (pp0 : Φ pb0 = some (.cells #[pv0_0, .int .i64 p0.i, .int .i64 p0.h] 112 (0, 0))) (pd0_0 : Dj pG0_0 [[pb0]].flatten) (hB : [[pb0]].flatten.Nodup) (hlt : ∀ k ∈ [[pb0]].flatten, k < w.heap.size) {r : TDef × Tl1Cur} (h : m_s_l10Draw N p0 = some r) :
  Calls Tryz.prog 31 [.pointer (some ⟨pb0, 0, none⟩)].toArray w (PostG Φ w [[pb0]].flatten (fun Φ' Fs v => ∃ (sr_0_0 : Value) (Dr_0_0 : List Nat), v = .agg [.string r.1.Name, sr_0_0].toArray ∧ Fs = [ob sr_0_0, Dr_0_0, [pb0]] ∧ OSl OTRule 40 5 Φ' Dr_0_0 sr_0_0 r.1.Rules ∧ r.2.b = p0.b ∧ Φ' pb0 = some (.cells #[pv0_0, .int .i64 r.2.i, .int .i64 r.2.h] 112 (0, 0)))) := by
 refine enter Tryz.func31 rfl Tryz.ntmps31 rfl (St.start hΦ [[pb0]] hB hlt) ?_
 have pa0_0 := Old.mk hΦ ph0_0.kn pd0_0
 revert pa0_0
 generalize hb0 : (⟨w, [[pb0]].flatten, Φ⟩ : Base) = w0
 intro pa0_0
 unfold m_s_l10Draw at h
 refine sr ?_
 refine ln (nz Zr_26) rfl (fun b_1 => ?_)
 refine en <| sr <| la rfl ?_
 have rc1 : RC RS 1 Φ ([[], [], []] : List (List Nat)) [.string (⟨#[102, 108, 111, 119]⟩ : ByteArray), .string (⟨#[115, 104, 105, 112]⟩ : ByteArray), .string (⟨#[120]⟩ : ByteArray)] ([(⟨#[102, 108, 111, 119]⟩ : ByteArray), (⟨#[115, 104, 105, 112]⟩ : ByteArray), (⟨#[120]⟩ : ByteArray)] : List ByteArray) := RC.cons (c := [.string (⟨#[102, 108, 111, 119]⟩ : ByteArray)]) (cells := [.string (⟨#[115, 104, 105, 112]⟩ : ByteArray), .string (⟨#[120]⟩ : ByteArray)]) ⟨rfl, rfl⟩ rfl (RC.cons (c := [.string (⟨#[115, 104, 105, 112]⟩ : ByteArray)]) (cells := [.string (⟨#[120]⟩ : ByteArray)]) ⟨rfl, rfl⟩ rfl (RC.cons (c := [.string (⟨#[120]⟩ : ByteArray)]) (cells := []) ⟨rfl, rfl⟩ rfl (RC.nil _ _ _)))
 refine le' (e_lit (vs := [(0, .string (⟨#[102, 108, 111, 119]⟩ : ByteArray)), (1, .string (⟨#[115, 104, 105, 112]⟩ : ByteArray)), (2, .string (⟨#[120]⟩ : ByteArray))]) (C := #[.string (⟨#[102, 108, 111, 119]⟩ : ByteArray), .string (⟨#[115, 104, 105, 112]⟩ : ByteArray), .string (⟨#[120]⟩ : ByteArray)]) RS.lasts Sl_114 Zr_9 rfl rfl rfl rfl (fill_made MC_9_3 (fill_cons (C' := [.string (⟨#[102, 108, 111, 119]⟩ : ByteArray), .string ⟨#[]⟩, .string ⟨#[]⟩]) rfl rfl rfl rfl rfl (fill_cons (C' := [.string (⟨#[102, 108, 111, 119]⟩ : ByteArray), .string (⟨#[115, 104, 105, 112]⟩ : ByteArray), .string ⟨#[]⟩]) rfl rfl rfl rfl rfl (fill_cons (C' := [.string (⟨#[102, 108, 111, 119]⟩ : ByteArray), .string (⟨#[115, 104, 105, 112]⟩ : ByteArray), .string (⟨#[120]⟩ : ByteArray)]) rfl rfl rfl rfl rfl (fill_nil))))) rfl rc1 rfl (by simpa using Kw.nil)) rfl (fun v1 Φ_1 D1 q1 => ?_)
 obtain ⟨fr1, h1⟩ := q1
 replace h1 : OSl RS 9 1 Φ_1 [] v1 ([(⟨#[102, 108, 111, 119]⟩ : ByteArray), (⟨#[115, 104, 105, 112]⟩ : ByteArray), (⟨#[120]⟩ : ByteArray)] : List ByteArray) := by simpa using h1
 replace ph0_0 := ph0_0.frame RI.lasts fr1 (Dj.empty _)
 replace pp0 := fr1 _ _ (by simp) pp0
 obtain ⟨x1, hx1, h⟩ := bs h
 refine lc (k_call (js := [1]) (R := [ob v1]) Fun_72 rfl rfl (fun w1 hw ap hl => m_s_l1Str_ok hw.fro N p0 ([(⟨#[102, 108, 111, 119]⟩ : ByteArray), (⟨#[115, 104, 105, 112]⟩ : ByteArray), (⟨#[120]⟩ : ByteArray)] : List ByteArray) ph0_0 pp0 h1.rsl (ap.o pa0_0) (Dj.app (ap.r (i := 0) rfl) (Dj.nil _)) ap.nd hl hx1)) rfl (fun v2 Φ_2 F1 q2 => ?_)
 obtain ⟨ap1, fr2, rfl, rfl, e1, h2⟩ := q2
 replace ph0_0 := ph0_0.frame RI.lasts fr2 (ap1.o pa0_0)
 refine lq (q_build (vs := [(0, .string x1.1)]) (C := #[.string x1.1, .slice none 0 0]) Pl_26 Zr_26 rfl (fill_cons (C' := [.string x1.1, .slice none 0 0]) rfl rfl rfl rfl rfl (fill_nil))) rfl ?_
 refine ln (nz Zr_26) rfl (fun b_2 => ?_)
 refine soN 0 Sz_26 rfl ⟨rfl, rfl, trivial⟩ rfl ?_
 refine en <| sr ?_
 have rc2 : RC RS 1 Φ_2 ([[], [], [], []] : List (List Nat)) [.string (⟨#[114, 49]⟩ : ByteArray), .string (⟨#[114, 50]⟩ : ByteArray), .string (⟨#[114, 51]⟩ : ByteArray), .string (⟨#[114, 52]⟩ : ByteArray)] ([(⟨#[114, 49]⟩ : ByteArray), (⟨#[114, 50]⟩ : ByteArray), (⟨#[114, 51]⟩ : ByteArray), (⟨#[114, 52]⟩ : ByteArray)] : List ByteArray) := RC.cons (c := [.string (⟨#[114, 49]⟩ : ByteArray)]) (cells := [.string (⟨#[114, 50]⟩ : ByteArray), .string (⟨#[114, 51]⟩ : ByteArray), .string (⟨#[114, 52]⟩ : ByteArray)]) ⟨rfl, rfl⟩ rfl (RC.cons (c := [.string (⟨#[114, 50]⟩ : ByteArray)]) (cells := [.string (⟨#[114, 51]⟩ : ByteArray), .string (⟨#[114, 52]⟩ : ByteArray)]) ⟨rfl, rfl⟩ rfl (RC.cons (c := [.string (⟨#[114, 51]⟩ : ByteArray)]) (cells := [.string (⟨#[114, 52]⟩ : ByteArray)]) ⟨rfl, rfl⟩ rfl (RC.cons (c := [.string (⟨#[114, 52]⟩ : ByteArray)]) (cells := []) ⟨rfl, rfl⟩ rfl (RC.nil _ _ _))))
 refine le' (e_lit (vs := [(0, .string (⟨#[114, 49]⟩ : ByteArray)), (1, .string (⟨#[114, 50]⟩ : ByteArray)), (2, .string (⟨#[114, 51]⟩ : ByteArray)), (3, .string (⟨#[114, 52]⟩ : ByteArray))]) (C := #[.string (⟨#[114, 49]⟩ : ByteArray), .string (⟨#[114, 50]⟩ : ByteArray), .string (⟨#[114, 51]⟩ : ByteArray), .string (⟨#[114, 52]⟩ : ByteArray)]) RS.lasts Sl_114 Zr_9 rfl rfl rfl rfl (fill_made MC_9_4 (fill_cons (C' := [.string (⟨#[114, 49]⟩ : ByteArray), .string ⟨#[]⟩, .string ⟨#[]⟩, .string ⟨#[]⟩]) rfl rfl rfl rfl rfl (fill_cons (C' := [.string (⟨#[114, 49]⟩ : ByteArray), .string (⟨#[114, 50]⟩ : ByteArray), .string ⟨#[]⟩, .string ⟨#[]⟩]) rfl rfl rfl rfl rfl (fill_cons (C' := [.string (⟨#[114, 49]⟩ : ByteArray), .string (⟨#[114, 50]⟩ : ByteArray), .string (⟨#[114, 51]⟩ : ByteArray), .string ⟨#[]⟩]) rfl rfl rfl rfl rfl (fill_cons (C' := [.string (⟨#[114, 49]⟩ : ByteArray), .string (⟨#[114, 50]⟩ : ByteArray), .string (⟨#[114, 51]⟩ : ByteArray), .string (⟨#[114, 52]⟩ : ByteArray)]) rfl rfl rfl rfl rfl (fill_nil)))))) rfl rc2 rfl (by simpa using Kw.nil)) rfl (fun v3 Φ_3 D2 q3 => ?_)
 obtain ⟨fr3, h3⟩ := q3
 replace h3 : OSl RS 9 1 Φ_3 [] v3 ([(⟨#[114, 49]⟩ : ByteArray), (⟨#[114, 50]⟩ : ByteArray), (⟨#[114, 51]⟩ : ByteArray), (⟨#[114, 52]⟩ : ByteArray)] : List ByteArray) := by simpa using h3
 replace ph0_0 := ph0_0.frame RI.lasts fr3 (Dj.empty _)
 replace h2 := fr3 _ _ (by simp) h2
 refine la rfl <| en <| sq <| sr <| la rfl <| en <| blk <| WT.loop <| WT.conv (S' := St w0 Φ_3 [(b_2, .cells #[.string x1.1, .slice none 0 0] 26 (0, 0)), (b_1, .cells #[.string (⟨#[]⟩ : ByteArray), .slice none 0 0] 26 (0, 0))] (ob (.slice none 0 0) :: [ob v3, [pb0], ob v1])) (fun w1 hw => hw.addNil) <| WT.conv (S' := St w0 Φ_3 [(b_2, .cells #[.string x1.1, .slice none 0 0] 26 (0, 0)), (b_1, .cells #[.string (⟨#[]⟩ : ByteArray), .slice none 0 0] 26 (0, 0))] ([] :: [ob (.slice none 0 0), ob v3, [pb0], ob v1])) (fun w1 hw => hw.addNil) ?_
 have k1 := OSl.nil OTRule 40 5 Φ_3
 refine WT.mono (l' := [(0, .pointer (some ⟨pb0, 0, none⟩)), (2, .pointer (some ⟨b_1, 0, none⟩)), (3, .pointer (some ⟨b_2, 0, none⟩)), (4, v3), (5, .int .i64 0)]) (S' := St w0 Φ_3 [(b_2, .cells #[.string x1.1, (.slice none 0 0)] 26 (0, 0)), (b_1, .cells #[.string (⟨#[]⟩ : ByteArray), .slice none 0 0] 26 (0, 0))] [[], ob (.slice none 0 0), ob v3, [pb0]]) ⟨rfl, rfl, rfl, rfl, rfl, trivial⟩ (fun w1 hw => (hw.sel (js := [0, 0, 0, 0]) rfl).selO (js := [0, 0]) rfl) ?_
 refine loop_ind (σ := Hp × (List TRule) × Value × List Nat × Int × Int × Int) (fun s => [(0, .pointer (some ⟨pb0, 0, none⟩)), (2, .pointer (some ⟨b_1, 0, none⟩)), (3, .pointer (some ⟨b_2, 0, none⟩)), (4, v3), (5, .int .i64 s.2.2.2.2.1)]) (fun s => St w0 s.1 [(b_2, .cells #[.string x1.1, s.2.2.1] 26 (0, 0)), (b_1, .cells #[.string (⟨#[]⟩ : ByteArray), .slice none 0 0] 26 (0, 0))] [s.2.2.2.1, ob s.2.2.1, ob v3, [pb0]]) (fun m s => m_s_l10Draw_l1 N p0 x1 m s.2.1 s.2.2.2.2.1 s.2.2.2.2.2.1 s.2.2.2.2.2.2 = some r ∧ (OSl RS 9 1 s.1 [] v3 ([(⟨#[114, 49]⟩ : ByteArray), (⟨#[114, 50]⟩ : ByteArray), (⟨#[114, 51]⟩ : ByteArray), (⟨#[114, 52]⟩ : ByteArray)] : List ByteArray)) ∧ (OSl OTRule 40 5 s.1 s.2.2.2.1 s.2.2.1 s.2.1) ∧ (s.1 pb0 = some (.cells #[pv0_0, .int .i64 s.2.2.2.2.2.1, .int .i64 s.2.2.2.2.2.2] 112 (0, 0))) ∧ (RSl (RI .u8) 1 s.1 pG0_0 pv0_0 p0.b)) (fun s hm => none_ne (show (none : Option (TDef × Tl1Cur)) = some r from hm.1)) (fun n1 ih1 s hm => ?_) N (Φ_3, ([] : List TRule), (.slice none 0 0), [], 0, x1.2.i, x1.2.h) ⟨h, h3, k1, h2, ph0_0⟩
 obtain ⟨Φ_4, s1, u1, D3, s2, s3, s4⟩ := s
 obtain ⟨h, h3, k2, k3, ph0_0⟩ := hm
 dsimp only at h h3 k2 k3 ph0_0 ⊢
 unfold m_s_l10Draw_l1 at h
 refine sq <| sr <| la rfl <| la rfl ?_
 obtain ⟨x2, hx2, h⟩ := bs h
 refine lc (k_call (js := [3]) (R := [D3, ob u1, ob v3]) Fun_73 rfl rfl (fun w1 hw ap hl => m_s_l1Below_ok hw.fro N (⟨p0.b, s3, s4⟩ : Tl1Cur) 4 ph0_0 k3 (ap.o pa0_0) ap.nd hl hx2)) rfl (fun v4 Φ_5 F2 q4 => ?_)
 obtain ⟨ap2, fr4, rfl, rfl, e2, h4⟩ := q4
 replace ph0_0 := ph0_0.frame RI.lasts fr4 (ap2.o pa0_0)
 replace h3 := h3.frame RS.lasts fr4 (ap2.r (i := 2) rfl) (Dj.nil _)
 replace k2 := k2.frame OTRule.lasts fr4 (ap2.r (i := 1) rfl) (ap2.r (i := 0) rfl)
 refine la rfl <| la rfl <| la rfl ?_
 obtain ⟨b3, hb_1, h⟩ := bs h
 refine WL.cutN 3 [(19, .bool b3), (0, .pointer (some ⟨pb0, 0, none⟩)), (2, .pointer (some ⟨b_1, 0, none⟩)), (3, .pointer (some ⟨b_2, 0, none⟩)), (4, v3), (5, .int .i64 s2)] ?_ (fun K => ?_)
 rotate_left
 ·refine spl 16 rfl hb_1 (fun c1 hb_1 => ?_) (fun c1 hb_1 => ?_)
  ·refine ly rfl rfl <| la rfl <| ly rfl rfl <| la rfl <| la rfl ?_
   cases hb_1
   exact kk K ⟨rfl, rfl, rfl, rfl, rfl, rfl, trivial⟩
  ·refine la rfl <| la rfl <| la rfl ?_
   cases hb_1
   exact kk K ⟨rfl, rfl, rfl, rfl, rfl, rfl, trivial⟩
 refine en ?_
 refine cdh rfl h (fun c2 h => ?_) (fun c2 h => ?_)
 ·refine WT.skip <| sq <| blk <| WT.mix (Kn Φ_5 (ob v3) [(b_2, .cells #[.string x1.1, u1] 26 (0, 0)), (b_1, .cells #[.string (⟨#[]⟩ : ByteArray), .slice none 0 0] 26 (0, 0))]) (fun i => match i with | 11 => false | _ => true) mixed (fun _ h => h.drew) <| mq 0 rfl (by kernel_rfl) (kn Kf.id (ai2 0 1 rfl rfl)) (q_fieldAddr Fld_26_1 rfl) rfl <| mq 1 rfl (by kernel_rfl) (kn Kf.id (ai2 0 1 rfl rfl)) (q_load1 T1_24 rfl (fun w1 hw => hw.rgO (i := 0) rfl 1 1 [u1] rfl)) rfl ?_
  refine ma 2 rfl (by kernel_rfl) (kn Kf.id (ai2 0 1 rfl rfl)) rfl <| ma 3 rfl (by kernel_rfl) (kn Kf.id (ai2 0 1 rfl rfl)) rfl <| ma 4 rfl (by kernel_rfl) (kn Kf.id (ai2 0 1 rfl rfl)) rfl ?_
  obtain ⟨x3, hx3, h⟩ := bs h
  obtain ⟨cs1, F3, -, g1, hb1, hs1, r1⟩ := h3.elS (idx_some hx3).2.2
  obtain ⟨rfl, -⟩ := r1
  refine mq 5 rfl (by kernel_rfl) (kn Kf.id (ai2 0 1 rfl rfl)) (q_indexAddr Sl_114 rfl rfl h3.rsl hx3) rfl <| mq 6 rfl (by kernel_rfl) (kn Kf.id (ai2 0 1 rfl rfl)) (q_load1 T1_9 rfl (fun w1 hw => hw.rg hb1 (g1.of_eq 0 1 rfl rfl : rg _ _ _ [.string x3]))) rfl ?_
  obtain ⟨x4, hx4, h⟩ := bs h
  refine WM.one 7 (by kernel_rfl) (mc rfl (fun _ v Φx D w1 hq hw => Kn.of (Kf.id.st hq.2.1 (hq.1.r (i := 2) rfl)) (ai2 0 1 rfl rfl) hw) (k_call (js := [0]) (R := [D3, ob u1, ob v3]) Fun_74 rfl rfl (fun w1 hw ap hl => m_s_l9Draw_ok hw.fro N (⟨p0.b, x2.2.i, x2.2.h⟩ : Tl1Cur) x3 ph0_0 h4 (ap.o pa0_0) ap.nd hl hx4)) rfl (fun v5 Φ_6 F4 q5 => ?_))
  obtain ⟨ap3, fr5, v6, D4, v7, v8, D5, rfl, rfl, h5, h6, h7, e3, h8⟩ := q5
  replace ph0_0 := ph0_0.frame RI.lasts fr5 (ap3.o pa0_0)
  replace h3 := h3.frame RS.lasts fr5 (ap3.r (i := 2) rfl) (Dj.nil _)
  replace k2 := k2.frame OTRule.lasts fr5 (ap3.r (i := 1) rfl) (ap3.r (i := 0) rfl)
  have rc3 : RC OTRule 5 Φ_6 ([(ob v6 ++ D4) ++ ((ob v7 ++ []) ++ ((ob v8 ++ D5)))] : List (List Nat)) [.string x4.1.Name, .int .i64 x4.1.Sal, v6, v7, v8] ([x4.1] : List TRule) := RC.cons (c := [.string x4.1.Name, .int .i64 x4.1.Sal, v6, v7, v8]) (cells := []) ⟨v6, D4, v7, v8, D5, rfl, rfl, h5, h6, h7⟩ rfl (RC.nil _ _ _)
  have kf1 := (Kf.id (F := (ob v3)) : Kf Φ_5 _ _).st fr5 (ap3.r (i := 2) rfl)
  refine WM.one 8 (by kernel_rfl) (me rfl (fun _ v Φx D w1 hq hw => Kn.of (kf1.se hq.1) (ai2 0 1 rfl rfl) hw) (e_lit (vs := [(0, .agg [.string x4.1.Name, .int .i64 x4.1.Sal, v6, v7, v8].toArray)]) (C := #[.string x4.1.Name, .int .i64 x4.1.Sal, v6, v7, v8]) OTRule.lasts Sl_24 Zr_40 rfl rfl rfl rfl (fill_made MC_40_1 (fill_cons (C' := [.string x4.1.Name, .int .i64 x4.1.Sal, v6, v7, v8]) rfl rfl rfl rfl rfl (fill_nil))) rfl rc3 rfl (RC.kn OTRule.knows rc3)) rfl (fun v9 Φ_7 D6 q6 => ?_))
  obtain ⟨fr6, h9⟩ := q6
  replace h9 : OSl OTRule 40 5 Φ_7 ((ob v6 ++ D4) ++ ((ob v7 ++ []) ++ ((ob v8 ++ D5)))) v9 ([x4.1] : List TRule) := by simpa [List.append_assoc] using h9
  replace ph0_0 := ph0_0.frame RI.lasts fr6 (Dj.empty _)
  replace h3 := h3.frame RS.lasts fr6 (Dj.empty _) (Dj.empty _)
  replace k2 := k2.frame OTRule.lasts fr6 (Dj.empty _) (Dj.empty _)
  replace h8 := fr6 _ _ (by simp) h8
  refine WM.conv (S' := St w0 Φ_7 [(b_2, .cells #[.string x1.1, u1] 26 (0, 0)), (b_1, .cells #[.string (⟨#[]⟩ : ByteArray), .slice none 0 0] 26 (0, 0))] [((ob v6 ++ D4) ++ ((ob v7 ++ []) ++ ((ob v8 ++ D5)))), ob v9, [pb0], D3, ob u1, ob v3]) (fun w1 hw => hw.merge (js := [1, 1, 1, 1, 1]) rfl (SP.eq (by simp [List.append_assoc, ob_nil]))) ?_
  obtain ⟨x5, hx5, h⟩ := bs h
  have kf2 := kf1.se fr6
  refine WM.one 9 (by kernel_rfl) (me rfl (fun _ v Φx D w1 hq hw => Kn.of (kf2.st hq.1.2 (hq.1.1.r (i := 4) rfl)) (ai2 0 1 rfl rfl) hw) (e_appO OTRule.lasts OTRule.one Sl_24 Ei_40 rfl rfl rfl rfl rfl (js := [4]) (Rr := [((ob v6 ++ D4) ++ ((ob v7 ++ []) ++ ((ob v8 ++ D5)))), ob v9, [pb0], D3, ob v3]) rfl k2 h9 (fun ap => (ap.r (i := 3) rfl)) (fun ap => (ap.r (i := 0) rfl)) hx5) rfl (fun v10 Φ_8 D7 q7 => ?_))
  obtain ⟨⟨ap4, fr7⟩, h10⟩ := q7
  replace ph0_0 := ph0_0.frame RI.lasts fr7 (ap4.o pa0_0)
  replace h3 := h3.frame RS.lasts fr7 (ap4.r (i := 4) rfl) (Dj.nil _)
  replace h8 := fr7 _ _ ((ap4.r (i := 2) rfl) _ (by simp)) h8
  refine WM.conv (S' := St w0 Φ_8 [(b_2, .cells #[.string x1.1, u1] 26 (0, 0)), (b_1, .cells #[.string (⟨#[]⟩ : ByteArray), .slice none 0 0] 26 (0, 0))] [(D3 ++ ((ob v6 ++ D4) ++ ((ob v7 ++ []) ++ ((ob v8 ++ D5))))), ob v10, ob v9, [pb0], ob v3]) (fun w1 hw => hw.merge (js := [4, 1]) rfl (SP.eq (by simp))) ?_
  have kf3 := kf2.st fr7 (ap4.r (i := 4) rfl)
  refine mq 10 rfl (by kernel_rfl) (kn kf3 (ai2 0 1 rfl rfl)) (q_fieldAddr Fld_26_1 rfl) rfl ?_
  refine WM.one 11 (by kernel_rfl) (ms rfl (fun hc => by cases hc) (s_store (i := 0) (vs := [v10]) (C' := [.string x1.1, v10]) (O' := [(b_2, .cells #[.string x1.1, v10] 26 (0, 0)), (b_1, .cells #[.string (⟨#[]⟩ : ByteArray), .slice none 0 0] 26 (0, 0))]) Sz_24 rfl rfl rfl (one_cells h10.one) rfl rfl ⟨h10.one, trivial⟩ rfl rfl) rfl ?_)
  refine WM.nil (by kernel_rfl) <| ib <| rgn <| la rfl <| la rfl <| la rfl <| en ?_
  exact lback (ih1 (Φ_8, x5, v10, (D3 ++ ((ob v6 ++ D4) ++ ((ob v7 ++ []) ++ ((ob v8 ++ D5))))), IntKind.i64.wrap (s2 + 1), x4.2.i, x4.2.h) ⟨h, h3, h10, h8, ph0_0⟩) ⟨rfl, rfl, rfl, rfl, rfl, trivial⟩ (fun w1 hw => (hw.sel (js := [0, 0, 2, 1]) rfl).selO (js := [0, 0]) rfl)
 refine xt rfl <| sr <| ld2 Tn_26 0 rfl <| soN 1 Sz_26 rfl ⟨rfl, k2.one, trivial⟩ rfl ?_
 refine en ?_
 refine WT.ret Tryz.func31 (resOk.one (rv_cell Tn_26 rfl (fun w1 hw => hw.rgO (i := 1) rfl 0 2 [.string x1.1, u1] rfl) rfl)) (fun w1 hw => ?_)
 subst hb0
 cases h
 refine postG_of_St (js := [2, 1, 0]) hw rfl ⟨u1, D3, rfl, rfl, k2, rfl, h4⟩
theorem m_s_l6Any_ok {Φ : Hp} {w : World} (hΦ : In Φ w) (N : Nat) (p0 : Tl1Cur) {pv0_0 : Value} {pG0_0 : List Nat} {pb0 : Nat} (ph0_0 : RSl (RI .u8) 1 Φ pG0_0 pv0_0 p0.b) (pp0 : Φ pb0 = some (.cells #[pv0_0, .int .i64 p0.i, .int .i64 p0.h] 112 (0, 0))) (pd0_0 : Dj pG0_0 [[pb0]].flatten) (hB : [[pb0]].flatten.Nodup) (hlt : ∀ k ∈ [[pb0]].flatten, k < w.heap.size) {r : TPat × Tl1Cur} (h : m_s_l6Any N p0 = some r) :
  Calls Tryz.prog 126 [.pointer (some ⟨pb0, 0, none⟩)].toArray w (PostG Φ w [[pb0]].flatten (fun Φ' Fs v => ∃ (sr_0_0 : Value), v = .agg [.string r.1.Kind, sr_0_0, .bool r.1.Not].toArray ∧ Fs = [ob sr_0_0, [pb0]] ∧ OSl RTArg 137 5 Φ' [] sr_0_0 r.1.Args ∧ r.2.b = p0.b ∧ Φ' pb0 = some (.cells #[pv0_0, .int .i64 r.2.i, .int .i64 r.2.h] 112 (0, 0)))) := by
 refine enter Tryz.func126 rfl Tryz.ntmps126 rfl (St.start hΦ [[pb0]] hB hlt) ?_
 have pa0_0 := Old.mk hΦ ph0_0.kn pd0_0
 revert pa0_0
 generalize hb0 : (⟨w, [[pb0]].flatten, Φ⟩ : Base) = w0
 intro pa0_0
 unfold m_s_l6Any at h
 refine sr ?_
 refine ln (nz Zr_171) rfl (fun b_1 => ?_)
 refine en <| sr <| la rfl <| la rfl ?_
 obtain ⟨x1, hx1, h⟩ := bs h
 refine lc (k_call (js := [0]) (R := []) Fun_32 rfl rfl (fun w1 hw ap hl => m_s_l1Once_ok hw.fro N p0 3 ph0_0 pp0 (ap.o pa0_0) ap.nd hl hx1)) rfl (fun v1 Φ_1 F1 q1 => ?_)
 obtain ⟨ap1, fr1, rfl, rfl, e1, h1⟩ := q1
 replace ph0_0 := ph0_0.frame RI.lasts fr1 (ap1.o pa0_0)
 obtain ⟨x2, hx2, h⟩ := bs h
 refine lc (k_call (js := [0]) (R := []) Fun_122 rfl rfl (fun w1 hw ap hl => m_s_l6Draw_ok hw.fro N (⟨p0.b, x1.2.i, x1.2.h⟩ : Tl1Cur) x1.1 ph0_0 h1 (ap.o pa0_0) ap.nd hl hx2)) rfl (fun v2 Φ_2 F2 q2 => ?_)
 obtain ⟨ap2, fr2, v3, rfl, rfl, h2, e2, h3⟩ := q2
 replace ph0_0 := ph0_0.frame RI.lasts fr2 (ap2.o pa0_0)
 refine ln (nz Zr_171) rfl (fun b_2 => ?_)
 refine soN 0 Sz_171 rfl ⟨rfl, h2.one, rfl, trivial⟩ rfl ?_
 refine en <| sq <| sr <| la rfl ?_
 obtain ⟨x3, hx3, h⟩ := bs h
 refine lc (k_call (js := [1]) (R := [ob v3]) Fun_73 rfl rfl (fun w1 hw ap hl => m_s_l1Below_ok hw.fro N (⟨p0.b, x2.2.i, x2.2.h⟩ : Tl1Cur) 10 ph0_0 h3 (ap.o pa0_0) ap.nd hl hx3)) rfl (fun v4 Φ_3 F3 q3 => ?_)
 obtain ⟨ap3, fr3, rfl, rfl, e3, h4⟩ := q3
 replace ph0_0 := ph0_0.frame RI.lasts fr3 (ap3.o pa0_0)
 replace h2 := h2.frame RTArg.lasts fr3 (ap3.r (i := 0) rfl) (Dj.nil _)
 refine en <| blk <| sr <| la rfl <| la rfl <| en ?_
 refine cut (σ := Hp × (List TArg) × Value × Int × Int × ByteArray) (fun s => [(2, .pointer (some ⟨b_1, 0, none⟩)), (3, .pointer (some ⟨b_2, 0, none⟩))]) (fun s => St w0 s.1 [(b_2, .cells #[.string s.2.2.2.2.2, s.2.2.1, .bool x2.1.Not] 171 (0, 0)), (b_1, .cells #[.string (⟨#[]⟩ : ByteArray), .slice none 0 0, .bool false] 171 (0, 0))] [[pb0], ob s.2.2.1]) (fun s => m_s_l6Any_j1 N p0 x2 s.2.1 s.2.2.2.1 s.2.2.2.2.1 s.2.2.2.2.2 = some r ∧ (OSl RTArg 137 5 s.1 [] s.2.2.1 s.2.1) ∧ (s.1 pb0 = some (.cells #[pv0_0, .int .i64 s.2.2.2.1, .int .i64 s.2.2.2.2.1] 112 (0, 0))) ∧ (RSl (RI .u8) 1 s.1 pG0_0 pv0_0 p0.b)) (fun s hm => ?_) (fun K => ?_)
 ·clear h
  obtain ⟨Φ_4, s1, u1, s2, s3, s4⟩ := s
  obtain ⟨h, k1, k2, ph0_0⟩ := hm
  dsimp only at h k1 k2 ph0_0 ⊢
  unfold m_s_l6Any_j1 at h
  refine ib <| sr <| ld3 Tn_171 0 rfl <| soN 1 Sz_171 rfl ⟨rfl, k1.one, rfl, trivial⟩ rfl ?_
  refine en ?_
  refine WT.ret Tryz.func126 (resOk.one (rv_cell Tn_171 rfl (fun w1 hw => hw.rgO (i := 1) rfl 0 3 [.string s4, u1, .bool x2.1.Not] rfl) rfl)) (fun w1 hw => ?_)
  subst hb0
  cases h
  refine postG_of_St (js := [1, 0]) hw rfl ⟨u1, rfl, rfl, k1, rfl, k2⟩
 refine cdh rfl h (fun c1 h => ?_) (fun c1 h => ?_)
 ·refine rgn <| la rfl ?_
  have rc1 : RC RS 1 Φ_3 ([[], [], []] : List (List Nat)) [.string (⟨#[]⟩ : ByteArray), .string (⟨#[65]⟩ : ByteArray), .string (⟨#[120]⟩ : ByteArray)] ([(⟨#[]⟩ : ByteArray), (⟨#[65]⟩ : ByteArray), (⟨#[120]⟩ : ByteArray)] : List ByteArray) := RC.cons (c := [.string (⟨#[]⟩ : ByteArray)]) (cells := [.string (⟨#[65]⟩ : ByteArray), .string (⟨#[120]⟩ : ByteArray)]) ⟨rfl, rfl⟩ rfl (RC.cons (c := [.string (⟨#[65]⟩ : ByteArray)]) (cells := [.string (⟨#[120]⟩ : ByteArray)]) ⟨rfl, rfl⟩ rfl (RC.cons (c := [.string (⟨#[120]⟩ : ByteArray)]) (cells := []) ⟨rfl, rfl⟩ rfl (RC.nil _ _ _)))
  refine le' (e_lit (vs := [(0, .string (⟨#[]⟩ : ByteArray)), (1, .string (⟨#[65]⟩ : ByteArray)), (2, .string (⟨#[120]⟩ : ByteArray))]) (C := #[.string (⟨#[]⟩ : ByteArray), .string (⟨#[65]⟩ : ByteArray), .string (⟨#[120]⟩ : ByteArray)]) RS.lasts Sl_114 Zr_9 rfl rfl rfl rfl (fill_made MC_9_3 (fill_cons (C' := [.string (⟨#[]⟩ : ByteArray), .string ⟨#[]⟩, .string ⟨#[]⟩]) rfl rfl rfl rfl rfl (fill_cons (C' := [.string (⟨#[]⟩ : ByteArray), .string (⟨#[65]⟩ : ByteArray), .string ⟨#[]⟩]) rfl rfl rfl rfl rfl (fill_cons (C' := [.string (⟨#[]⟩ : ByteArray), .string (⟨#[65]⟩ : ByteArray), .string (⟨#[120]⟩ : ByteArray)]) rfl rfl rfl rfl rfl (fill_nil))))) rfl rc1 rfl (by simpa using Kw.nil)) rfl (fun v5 Φ_5 D1 q4 => ?_)
  obtain ⟨fr4, h5⟩ := q4
  replace h5 : OSl RS 9 1 Φ_5 [] v5 ([(⟨#[]⟩ : ByteArray), (⟨#[65]⟩ : ByteArray), (⟨#[120]⟩ : ByteArray)] : List ByteArray) := by simpa using h5
  replace ph0_0 := ph0_0.frame RI.lasts fr4 (Dj.empty _)
  replace h2 := h2.frame RTArg.lasts fr4 (Dj.empty _) (Dj.empty _)
  replace h4 := fr4 _ _ (by simp) h4
  obtain ⟨x4, hx4, h⟩ := bs h
  refine lc (k_call (js := [1]) (R := [ob v5, ob v3]) Fun_72 rfl rfl (fun w1 hw ap hl => m_s_l1Str_ok hw.fro N (⟨p0.b, x3.2.i, x3.2.h⟩ : Tl1Cur) ([(⟨#[]⟩ : ByteArray), (⟨#[65]⟩ : ByteArray), (⟨#[120]⟩ : ByteArray)] : List ByteArray) ph0_0 h4 h5.rsl (ap.o pa0_0) (Dj.app (ap.r (i := 0) rfl) (Dj.nil _)) ap.nd hl hx4)) rfl (fun v6 Φ_6 F4 q5 => ?_)
  obtain ⟨ap4, fr5, rfl, rfl, e4, h6⟩ := q5
  replace ph0_0 := ph0_0.frame RI.lasts fr5 (ap4.o pa0_0)
  replace h2 := h2.frame RTArg.lasts fr5 (ap4.r (i := 1) rfl) (Dj.nil _)
  refine lf Fld_171_0 rfl rfl rfl <| so1 0 Sz_9 rfl rfl ?_
  refine en ?_
  exact wto (K (Φ_6, x2.1.Args, v3, x4.2.i, x4.2.h, x4.1) ⟨h, h2, h6, ph0_0⟩) ⟨rfl, rfl, trivial⟩ (fun w1 hw => (hw.sel (js := [0, 1]) rfl).selO (js := [0, 0]) rfl)
 refine sr <| la rfl <| la rfl <| en ?_
 refine cdh rfl h (fun c2 h => ?_) (fun c2 h => ?_)
 ·refine cut (σ := Hp × (List TArg) × Value × Int × Int) (fun s => [(2, .pointer (some ⟨b_1, 0, none⟩)), (3, .pointer (some ⟨b_2, 0, none⟩))]) (fun s => St w0 s.1 [(b_2, .cells #[.string x2.1.Kind, s.2.2.1, .bool x2.1.Not] 171 (0, 0)), (b_1, .cells #[.string (⟨#[]⟩ : ByteArray), .slice none 0 0, .bool false] 171 (0, 0))] [ob s.2.2.1, [pb0]]) (fun s => m_s_l6Any_j2 N p0 x2 s.2.1 s.2.2.2.1 s.2.2.2.2 = some r ∧ (OSl RTArg 137 5 s.1 [] s.2.2.1 s.2.1) ∧ (s.1 pb0 = some (.cells #[pv0_0, .int .i64 s.2.2.2.1, .int .i64 s.2.2.2.2] 112 (0, 0))) ∧ (RSl (RI .u8) 1 s.1 pG0_0 pv0_0 p0.b)) (fun s hm => ?_) (fun K => ?_)
  ·clear h
   obtain ⟨Φ_12, s5, u2, s6, s7⟩ := s
   obtain ⟨h, k3, k4, ph0_0⟩ := hm
   dsimp only at h k3 k4 ph0_0 ⊢
   unfold m_s_l6Any_j2 at h
   exact wto (K (Φ_12, s5, u2, s6, s7, x2.1.Kind) ⟨h, k3, k4, ph0_0⟩) ⟨rfl, rfl, trivial⟩ (fun w1 hw => (hw.sel (js := [1, 0]) rfl).selO (js := [0, 0]) rfl)
  refine WT.mix (Kn Φ_3 [] [(b_2, .cells #[.string x2.1.Kind, v3, .bool x2.1.Not] 171 (0, 0)), (b_1, .cells #[.string (⟨#[]⟩ : ByteArray), .slice none 0 0, .bool false] 171 (0, 0))]) (fun i => match i with | 11 => false | _ => true) mixed (fun _ h => h.drew) <| mq 0 rfl (by kernel_rfl) (kn Kf.nil (ai2 0 1 rfl rfl)) (q_fieldAddr Fld_171_1 rfl) rfl <| mq 1 rfl (by kernel_rfl) (kn Kf.nil (ai2 0 1 rfl rfl)) (q_load1 T1_169 rfl (fun w1 hw => hw.rgO (i := 0) rfl 1 1 [v3] rfl)) rfl ?_
  refine ma 2 rfl (by kernel_rfl) (kn Kf.nil (ai2 0 1 rfl rfl)) rfl <| ma 4 rfl (by kernel_rfl) (kn Kf.nil (ai2 0 1 rfl rfl)) rfl ?_
  refine WM.two 3 5 (by kernel_rfl) ?_ ?_
  ·obtain ⟨x8, hx8, h⟩ := bs h
   refine mc rfl (fun _ v Φx D w1 hq hw => Kn.of Kf.nil (ai2 0 1 rfl rfl) hw) (k_call (js := [0]) (R := [ob v3]) Fun_73 rfl rfl (fun w1 hw ap hl => m_s_l1Below_ok hw.fro N (⟨p0.b, x3.2.i, x3.2.h⟩ : Tl1Cur) 5 ph0_0 h4 (ap.o pa0_0) ap.nd hl hx8)) rfl (fun v12 Φ_13 F7 q11 => ?_)
   obtain ⟨ap8, fr11, rfl, rfl, e7, h12⟩ := q11
   replace ph0_0 := ph0_0.frame RI.lasts fr11 (ap8.o pa0_0)
   replace h2 := h2.frame RTArg.lasts fr11 (ap8.r (i := 0) rfl) (Dj.nil _)
   have rc4 : RC RS 1 Φ_13 ([[], [], []] : List (List Nat)) [.string (⟨#[]⟩ : ByteArray), .string (⟨#[120]⟩ : ByteArray), .string (⟨#[88]⟩ : ByteArray)] ([(⟨#[]⟩ : ByteArray), (⟨#[120]⟩ : ByteArray), (⟨#[88]⟩ : ByteArray)] : List ByteArray) := RC.cons (c := [.string (⟨#[]⟩ : ByteArray)]) (cells := [.string (⟨#[120]⟩ : ByteArray), .string (⟨#[88]⟩ : ByteArray)]) ⟨rfl, rfl⟩ rfl (RC.cons (c := [.string (⟨#[120]⟩ : ByteArray)]) (cells := [.string (⟨#[88]⟩ : ByteArray)]) ⟨rfl, rfl⟩ rfl (RC.cons (c := [.string (⟨#[88]⟩ : ByteArray)]) (cells := []) ⟨rfl, rfl⟩ rfl (RC.nil _ _ _)))
   refine WM.one 5 (by kernel_rfl) (me rfl (fun _ v Φx D w1 hq hw => Kn.of Kf.nil (ai2 0 1 rfl rfl) hw) (e_lit (vs := [(0, .string (⟨#[]⟩ : ByteArray)), (1, .string (⟨#[120]⟩ : ByteArray)), (2, .string (⟨#[88]⟩ : ByteArray))]) (C := #[.string (⟨#[]⟩ : ByteArray), .string (⟨#[120]⟩ : ByteArray), .string (⟨#[88]⟩ : ByteArray)]) RS.lasts Sl_114 Zr_9 rfl rfl rfl rfl (fill_made MC_9_3 (fill_cons (C' := [.string (⟨#[]⟩ : ByteArray), .string ⟨#[]⟩, .string ⟨#[]⟩]) rfl rfl rfl rfl rfl (fill_cons (C' := [.string (⟨#[]⟩ : ByteArray), .string (⟨#[120]⟩ : ByteArray), .string ⟨#[]⟩]) rfl rfl rfl rfl rfl (fill_cons (C' := [.string (⟨#[]⟩ : ByteArray), .string (⟨#[120]⟩ : ByteArray), .string (⟨#[88]⟩ : ByteArray)]) rfl rfl rfl rfl rfl (fill_nil))))) rfl rc4 rfl (by simpa using Kw.nil)) rfl (fun v13 Φ_14 D5 q12 => ?_))
   obtain ⟨fr12, h13⟩ := q12
   replace h13 : OSl RS 9 1 Φ_14 [] v13 ([(⟨#[]⟩ : ByteArray), (⟨#[120]⟩ : ByteArray), (⟨#[88]⟩ : ByteArray)] : List ByteArray) := by simpa using h13
   replace ph0_0 := ph0_0.frame RI.lasts fr12 (Dj.empty _)
   replace h2 := h2.frame RTArg.lasts fr12 (Dj.empty _) (Dj.empty _)
   replace h12 := fr12 _ _ (by simp) h12
   obtain ⟨x9, hx9, h⟩ := bs h
   refine WM.one 6 (by kernel_rfl) (mc rfl (fun _ v Φx D w1 hq hw => Kn.of Kf.nil (ai2 0 1 rfl rfl) hw) (k_call (js := [1]) (R := [ob v13, ob v3]) Fun_72 rfl rfl (fun w1 hw ap hl => m_s_l1Str_ok hw.fro N (⟨p0.b, x8.2.i, x8.2.h⟩ : Tl1Cur) ([(⟨#[]⟩ : ByteArray), (⟨#[120]⟩ : ByteArray), (⟨#[88]⟩ : ByteArray)] : List ByteArray) ph0_0 h12 h13.rsl (ap.o pa0_0) (Dj.app (ap.r (i := 0) rfl) (Dj.nil _)) ap.nd hl hx9)) rfl (fun v14 Φ_15 F8 q13 => ?_))
   obtain ⟨ap9, fr13, rfl, rfl, e8, h14⟩ := q13
   replace ph0_0 := ph0_0.frame RI.lasts fr13 (ap9.o pa0_0)
   replace h2 := h2.frame RTArg.lasts fr13 (ap9.r (i := 1) rfl) (Dj.nil _)
   refine mq 7 rfl (by kernel_rfl) (kn Kf.nil (ai2 0 1 rfl rfl)) (q_build (vs := [(0, .int .i64 x8.1), (1, .string x9.1)]) (C := #[.int .i64 x8.1, .string x9.1, .int .i64 0, .int .i64 0, .string (⟨#[]⟩ : ByteArray)]) Pl_137 Zr_137 rfl (fill_cons (C' := [.int .i64 x8.1, .string ⟨#[]⟩, .int .i64 0, .int .i64 0, .string ⟨#[]⟩]) rfl rfl rfl rfl rfl (fill_cons (C' := [.int .i64 x8.1, .string x9.1, .int .i64 0, .int .i64 0, .string ⟨#[]⟩]) rfl rfl rfl rfl rfl (fill_nil)))) rfl ?_
   have rc5 : RC RTArg 5 Φ_15 ([[]] : List (List Nat)) [.int .i64 x8.1, .string x9.1, .int .i64 0, .int .i64 0, .string (⟨#[]⟩ : ByteArray)] ([(⟨x8.1, x9.1, (⟨0, 0, (⟨#[]⟩ : ByteArray)⟩ : TVal)⟩ : TArg)] : List TArg) := RC.cons (c := [.int .i64 x8.1, .string x9.1, .int .i64 0, .int .i64 0, .string (⟨#[]⟩ : ByteArray)]) (cells := []) ⟨rfl, rfl⟩ rfl (RC.nil _ _ _)
   refine WM.one 8 (by kernel_rfl) (me rfl (fun _ v Φx D w1 hq hw => Kn.of Kf.nil (ai2 0 1 rfl rfl) hw) (e_lit (vs := [(0, .agg [.int .i64 x8.1, .string x9.1, .int .i64 0, .int .i64 0, .string (⟨#[]⟩ : ByteArray)].toArray)]) (C := #[.int .i64 x8.1, .string x9.1, .int .i64 0, .int .i64 0, .string (⟨#[]⟩ : ByteArray)]) RTArg.lasts Sl_169 Zr_137 rfl rfl rfl rfl (fill_made MC_137_1 (fill_cons (C' := [.int .i64 x8.1, .string x9.1, .int .i64 0, .int .i64 0, .string (⟨#[]⟩ : ByteArray)]) rfl rfl rfl rfl rfl (fill_nil))) rfl rc5 rfl (by simpa using Kw.nil)) rfl (fun v15 Φ_16 D6 q14 => ?_))
   obtain ⟨fr14, h15⟩ := q14
   replace h15 : OSl RTArg 137 5 Φ_16 [] v15 ([(⟨x8.1, x9.1, (⟨0, 0, (⟨#[]⟩ : ByteArray)⟩ : TVal)⟩ : TArg)] : List TArg) := by simpa using h15
   replace ph0_0 := ph0_0.frame RI.lasts fr14 (Dj.empty _)
   replace h2 := h2.frame RTArg.lasts fr14 (Dj.empty _) (Dj.empty _)
   replace h14 := fr14 _ _ (by simp) h14
   obtain ⟨x10, hx10, h⟩ := bs h
   refine WM.one 9 (by kernel_rfl) (me rfl (fun _ v Φx D w1 hq hw => Kn.of Kf.nil (ai2 0 1 rfl rfl) hw) (e_appF RTArg.lasts RTArg.one RTArg.flat Sl_169 Ei_137 rfl rfl rfl rfl rfl (js := [3]) (Rr := [ob v15, [pb0], ob v13]) rfl h2 h15.rsl hx10) rfl (fun v16 Φ_17 D7 q15 => ?_))
   obtain ⟨⟨ap10, fr15⟩, h16⟩ := q15
   replace ph0_0 := ph0_0.frame RI.lasts fr15 (ap10.o pa0_0)
   replace h14 := fr15 _ _ ((ap10.r (i := 1) rfl) _ (by simp)) h14
   refine mq 10 rfl (by kernel_rfl) (kn Kf.nil (ai2 0 1 rfl rfl)) (q_fieldAddr Fld_171_1 rfl) rfl ?_
   refine WM.one 11 (by kernel_rfl) (ms rfl (fun hc => by cases hc) (s_store (i := 0) (vs := [v16]) (C' := [.string x2.1.Kind, v16, .bool x2.1.Not]) (O' := [(b_2, .cells #[.string x2.1.Kind, v16, .bool x2.1.Not] 171 (0, 0)), (b_1, .cells #[.string (⟨#[]⟩ : ByteArray), .slice none 0 0, .bool false] 171 (0, 0))]) Sz_169 rfl rfl rfl (one_cells h16.one) rfl rfl ⟨h16.one, trivial⟩ rfl rfl) rfl ?_)
   refine WM.nil (by kernel_rfl) ?_
   exact wto (K (Φ_17, x10, v16, x9.2.i, x9.2.h) ⟨h, h16, h14, ph0_0⟩) ⟨rfl, rfl, trivial⟩ (fun w1 hw => (hw.sel (js := [0, 1]) rfl).selO (js := [0, 0]) rfl)
  have rc6 : RC RS 1 Φ_3 ([[], [], []] : List (List Nat)) [.string (⟨#[]⟩ : ByteArray), .string (⟨#[120]⟩ : ByteArray), .string (⟨#[88]⟩ : ByteArray)] ([(⟨#[]⟩ : ByteArray), (⟨#[120]⟩ : ByteArray), (⟨#[88]⟩ : ByteArray)] : List ByteArray) := RC.cons (c := [.string (⟨#[]⟩ : ByteArray)]) (cells := [.string (⟨#[120]⟩ : ByteArray), .string (⟨#[88]⟩ : ByteArray)]) ⟨rfl, rfl⟩ rfl (RC.cons (c := [.string (⟨#[120]⟩ : ByteArray)]) (cells := [.string (⟨#[88]⟩ : ByteArray)]) ⟨rfl, rfl⟩ rfl (RC.cons (c := [.string (⟨#[88]⟩ : ByteArray)]) (cells := []) ⟨rfl, rfl⟩ rfl (RC.nil _ _ _)))
  refine me rfl (fun _ v Φx D w1 hq hw => Kn.of Kf.nil (ai2 0 1 rfl rfl) hw) (e_lit (vs := [(0, .string (⟨#[]⟩ : ByteArray)), (1, .string (⟨#[120]⟩ : ByteArray)), (2, .string (⟨#[88]⟩ : ByteArray))]) (C := #[.string (⟨#[]⟩ : ByteArray), .string (⟨#[120]⟩ : ByteArray), .string (⟨#[88]⟩ : ByteArray)]) RS.lasts Sl_114 Zr_9 rfl rfl rfl rfl (fill_made MC_9_3 (fill_cons (C' := [.string (⟨#[]⟩ : ByteArray), .string ⟨#[]⟩, .string ⟨#[]⟩]) rfl rfl rfl rfl rfl (fill_cons (C' := [.string (⟨#[]⟩ : ByteArray), .string (⟨#[120]⟩ : ByteArray), .string ⟨#[]⟩]) rfl rfl rfl rfl rfl (fill_cons (C' := [.string (⟨#[]⟩ : ByteArray), .string (⟨#[120]⟩ : ByteArray), .string (⟨#[88]⟩ : ByteArray)]) rfl rfl rfl rfl rfl (fill_nil))))) rfl rc6 rfl (by simpa using Kw.nil)) rfl (fun v17 Φ_18 D8 q16 => ?_)
  obtain ⟨fr16, h17⟩ := q16
  replace h17 : OSl RS 9 1 Φ_18 [] v17 ([(⟨#[]⟩ : ByteArray), (⟨#[120]⟩ : ByteArray), (⟨#[88]⟩ : ByteArray)] : List ByteArray) := by simpa using h17
  replace ph0_0 := ph0_0.frame RI.lasts fr16 (Dj.empty _)
  replace h2 := h2.frame RTArg.lasts fr16 (Dj.empty _) (Dj.empty _)
  replace h4 := fr16 _ _ (by simp) h4
  obtain ⟨x11, hx11, h⟩ := bs h
  refine WM.one 3 (by kernel_rfl) (mc rfl (fun _ v Φx D w1 hq hw => Kn.of Kf.nil (ai2 0 1 rfl rfl) hw) (k_call (js := [1]) (R := [ob v17, ob v3]) Fun_73 rfl rfl (fun w1 hw ap hl => m_s_l1Below_ok hw.fro N (⟨p0.b, x3.2.i, x3.2.h⟩ : Tl1Cur) 5 ph0_0 h4 (ap.o pa0_0) ap.nd hl hx11)) rfl (fun v18 Φ_19 F9 q17 => ?_))
  obtain ⟨ap11, fr17, rfl, rfl, e9, h18⟩ := q17
  replace ph0_0 := ph0_0.frame RI.lasts fr17 (ap11.o pa0_0)
  replace h2 := h2.frame RTArg.lasts fr17 (ap11.r (i := 1) rfl) (Dj.nil _)
  replace h17 := h17.frame RS.lasts fr17 (ap11.r (i := 0) rfl) (Dj.nil _)
  obtain ⟨x12, hx12, h⟩ := bs h
  refine WM.one 6 (by kernel_rfl) (mc rfl (fun _ v Φx D w1 hq hw => Kn.of Kf.nil (ai2 0 1 rfl rfl) hw) (k_call (js := [0]) (R := [ob v17, ob v3]) Fun_72 rfl rfl (fun w1 hw ap hl => m_s_l1Str_ok hw.fro N (⟨p0.b, x11.2.i, x11.2.h⟩ : Tl1Cur) ([(⟨#[]⟩ : ByteArray), (⟨#[120]⟩ : ByteArray), (⟨#[88]⟩ : ByteArray)] : List ByteArray) ph0_0 h18 h17.rsl (ap.o pa0_0) (Dj.app (ap.r (i := 0) rfl) (Dj.nil _)) ap.nd hl hx12)) rfl (fun v19 Φ_20 F10 q18 => ?_))
  obtain ⟨ap12, fr18, rfl, rfl, e10, h19⟩ := q18
  replace ph0_0 := ph0_0.frame RI.lasts fr18 (ap12.o pa0_0)
  replace h2 := h2.frame RTArg.lasts fr18 (ap12.r (i := 1) rfl) (Dj.nil _)
  refine mq 7 rfl (by kernel_rfl) (kn Kf.nil (ai2 0 1 rfl rfl)) (q_build (vs := [(0, .int .i64 x11.1), (1, .string x12.1)]) (C := #[.int .i64 x11.1, .string x12.1, .int .i64 0, .int .i64 0, .string (⟨#[]⟩ : ByteArray)]) Pl_137 Zr_137 rfl (fill_cons (C' := [.int .i64 x11.1, .string ⟨#[]⟩, .int .i64 0, .int .i64 0, .string ⟨#[]⟩]) rfl rfl rfl rfl rfl (fill_cons (C' := [.int .i64 x11.1, .string x12.1, .int .i64 0, .int .i64 0, .string ⟨#[]⟩]) rfl rfl rfl rfl rfl (fill_nil)))) rfl ?_
  have rc7 : RC RTArg 5 Φ_20 ([[]] : List (List Nat)) [.int .i64 x11.1, .string x12.1, .int .i64 0, .int .i64 0, .string (⟨#[]⟩ : ByteArray)] ([(⟨x11.1, x12.1, (⟨0, 0, (⟨#[]⟩ : ByteArray)⟩ : TVal)⟩ : TArg)] : List TArg) := RC.cons (c := [.int .i64 x11.1, .string x12.1, .int .i64 0, .int .i64 0, .string (⟨#[]⟩ : ByteArray)]) (cells := []) ⟨rfl, rfl⟩ rfl (RC.nil _ _ _)
  refine WM.one 8 (by kernel_rfl) (me rfl (fun _ v Φx D w1 hq hw => Kn.of Kf.nil (ai2 0 1 rfl rfl) hw) (e_lit (vs := [(0, .agg [.int .i64 x11.1, .string x12.1, .int .i64 0, .int .i64 0, .string (⟨#[]⟩ : ByteArray)].toArray)]) (C := #[.int .i64 x11.1, .string x12.1, .int .i64 0, .int .i64 0, .string (⟨#[]⟩ : ByteArray)]) RTArg.lasts Sl_169 Zr_137 rfl rfl rfl rfl (fill_made MC_137_1 (fill_cons (C' := [.int .i64 x11.1, .string x12.1, .int .i64 0, .int .i64 0, .string (⟨#[]⟩ : ByteArray)]) rfl rfl rfl rfl rfl (fill_nil))) rfl rc7 rfl (by simpa using Kw.nil)) rfl (fun v20 Φ_21 D9 q19 => ?_))
  obtain ⟨fr19, h20⟩ := q19
  replace h20 : OSl RTArg 137 5 Φ_21 [] v20 ([(⟨x11.1, x12.1, (⟨0, 0, (⟨#[]⟩ : ByteArray)⟩ : TVal)⟩ : TArg)] : List TArg) := by simpa using h20
  replace ph0_0 := ph0_0.frame RI.lasts fr19 (Dj.empty _)
  replace h2 := h2.frame RTArg.lasts fr19 (Dj.empty _) (Dj.empty _)
  replace h19 := fr19 _ _ (by simp) h19
  obtain ⟨x13, hx13, h⟩ := bs h
  refine WM.one 9 (by kernel_rfl) (me rfl (fun _ v Φx D w1 hq hw => Kn.of Kf.nil (ai2 0 1 rfl rfl) hw) (e_appF RTArg.lasts RTArg.one RTArg.flat Sl_169 Ei_137 rfl rfl rfl rfl rfl (js := [3]) (Rr := [ob v20, [pb0], ob v17]) rfl h2 h20.rsl hx13) rfl (fun v21 Φ_22 D10 q20 => ?_))
  obtain ⟨⟨ap13, fr20⟩, h21⟩ := q20
  replace ph0_0 := ph0_0.frame RI.lasts fr20 (ap13.o pa0_0)
  replace h19 := fr20 _ _ ((ap13.r (i := 1) rfl) _ (by simp)) h19
  refine mq 10 rfl (by kernel_rfl) (kn Kf.nil (ai2 0 1 rfl rfl)) (q_fieldAddr Fld_171_1 rfl) rfl ?_
  refine WM.one 11 (by kernel_rfl) (ms rfl (fun hc => by cases hc) (s_store (i := 0) (vs := [v21]) (C' := [.string x2.1.Kind, v21, .bool x2.1.Not]) (O' := [(b_2, .cells #[.string x2.1.Kind, v21, .bool x2.1.Not] 171 (0, 0)), (b_1, .cells #[.string (⟨#[]⟩ : ByteArray), .slice none 0 0, .bool false] 171 (0, 0))]) Sz_169 rfl rfl rfl (one_cells h21.one) rfl rfl ⟨h21.one, trivial⟩ rfl rfl) rfl ?_)
  refine WM.nil (by kernel_rfl) ?_
  exact wto (K (Φ_22, x13, v21, x12.2.i, x12.2.h) ⟨h, h21, h19, ph0_0⟩) ⟨rfl, rfl, trivial⟩ (fun w1 hw => (hw.sel (js := [0, 1]) rfl).selO (js := [0, 0]) rfl)
 refine sr <| la rfl <| la rfl <| en ?_
 refine cdh rfl h (fun c3 h => ?_) (fun c3 h => ?_)
 ·refine blk ?_
  refine loop_in (σ := Hp × (List TArg) × Value × Int × Int) (fun s => [(0, .pointer (some ⟨pb0, 0, none⟩)), (2, .pointer (some ⟨b_1, 0, none⟩)), (3, .pointer (some ⟨b_2, 0, none⟩))]) (fun s => St w0 s.1 [(b_2, .cells #[.string x2.1.Kind, s.2.2.1, .bool x2.1.Not] 171 (0, 0)), (b_1, .cells #[.string (⟨#[]⟩ : ByteArray), .slice none 0 0, .bool false] 171 (0, 0))] [[pb0], ob s.2.2.1]) (fun m s => m_s_l6Any_l3 N p0 x2 m s.2.1 s.2.2.2.1 s.2.2.2.2 = some r ∧ (OSl RTArg 137 5 s.1 [] s.2.2.1 s.2.1) ∧ (s.1 pb0 = some (.cells #[pv0_0, .int .i64 s.2.2.2.1, .int .i64 s.2.2.2.2] 112 (0, 0))) ∧ (RSl (RI .u8) 1 s.1 pG0_0 pv0_0 p0.b)) (Φ_3, x2.1.Args, v3, x3.2.i, x3.2.h) N ⟨h, h2, h4, ph0_0⟩ ⟨rfl, rfl, rfl, trivial⟩ (fun w1 hw => (hw.sel (js := [0, 0]) rfl).selO (js := [0, 0]) rfl) (fun s hm => none_ne hm.1) (fun n3 ih3 s hm => ?_)
  obtain ⟨Φ_23, s8, u3, s9, s10⟩ := s
  obtain ⟨h, k5, k6, ph0_0⟩ := hm
  dsimp only at h k5 k6 ph0_0 ⊢
  unfold m_s_l6Any_l3 at h
  refine sq <| sq <| WT.mix (Kn Φ_23 [] [(b_2, .cells #[.string x2.1.Kind, u3, .bool x2.1.Not] 171 (0, 0)), (b_1, .cells #[.string (⟨#[]⟩ : ByteArray), .slice none 0 0, .bool false] 171 (0, 0))]) (fun _ => true) mixed (fun _ h => h.drew) <| mq 0 rfl (by kernel_rfl) (kn Kf.nil (ai2 0 1 rfl rfl)) (q_fieldAddr Fld_171_1 rfl) rfl <| mq 1 rfl (by kernel_rfl) (kn Kf.nil (ai2 0 1 rfl rfl)) (q_load1 T1_169 rfl (fun w1 hw => hw.rgO (i := 0) rfl 1 1 [u3] rfl)) rfl ?_
  refine mq 2 rfl (by kernel_rfl) (kn Kf.nil (ai2 0 1 rfl rfl)) (q_lenR Sl_169 rfl rfl k5.rsl) rfl <| ma 3 rfl (by kernel_rfl) (kn Kf.nil (ai2 0 1 rfl rfl)) rfl ?_
  obtain ⟨x14, hx14, h⟩ := bs h
  refine WM.one 4 (by kernel_rfl) (mc rfl (fun _ v Φx D w1 hq hw => Kn.of Kf.nil (ai2 0 1 rfl rfl) hw) (k_call (js := [0]) (R := [ob u3]) Fun_73 rfl rfl (fun w1 hw ap hl => m_s_l1Below_ok hw.fro N (⟨p0.b, s9, s10⟩ : Tl1Cur) 2 ph0_0 k6 (ap.o pa0_0) ap.nd hl hx14)) rfl (fun v22 Φ_24 F11 q21 => ?_))
  obtain ⟨ap14, fr21, rfl, rfl, e11, h22⟩ := q21
  replace ph0_0 := ph0_0.frame RI.lasts fr21 (ap14.o pa0_0)
  replace k5 := k5.frame RTArg.lasts fr21 (ap14.r (i := 0) rfl) (Dj.nil _)
  refine ma 5 rfl (by kernel_rfl) (kn Kf.nil (ai2 0 1 rfl rfl)) rfl <| ma 6 rfl (by kernel_rfl) (kn Kf.nil (ai2 0 1 rfl rfl)) rfl <| WM.nil (by kernel_rfl) ?_
  refine cdh rfl h (fun c4 h => ?_) (fun c4 h => ?_)
  ·refine WT.skip <| blk <| WT.mix (Kn Φ_24 [] [(b_2, .cells #[.string x2.1.Kind, u3, .bool x2.1.Not] 171 (0, 0)), (b_1, .cells #[.string (⟨#[]⟩ : ByteArray), .slice none 0 0, .bool false] 171 (0, 0))]) (fun i => match i with | 7 => false | _ => true) mixed (fun _ h => h.drew) <| mq 0 rfl (by kernel_rfl) (kn Kf.nil (ai2 0 1 rfl rfl)) (q_fieldAddr Fld_171_1 rfl) rfl <| mq 1 rfl (by kernel_rfl) (kn Kf.nil (ai2 0 1 rfl rfl)) (q_load1 T1_169 rfl (fun w1 hw => hw.rgO (i := 0) rfl 1 1 [u3] rfl)) rfl ?_
   refine ma 2 rfl (by kernel_rfl) (kn Kf.nil (ai2 0 1 rfl rfl)) rfl ?_
   obtain ⟨x15, hx15, h⟩ := bs h
   refine WM.one 3 (by kernel_rfl) (mc rfl (fun _ v Φx D w1 hq hw => Kn.of Kf.nil (ai2 0 1 rfl rfl) hw) (k_call (js := [0]) (R := [ob u3]) Fun_173 rfl rfl (fun w1 hw ap hl => m_s_l6Arg_ok hw.fro N (⟨p0.b, x14.2.i, x14.2.h⟩ : Tl1Cur) ph0_0 h22 (ap.o pa0_0) ap.nd hl hx15)) rfl (fun v23 Φ_25 F12 q22 => ?_))
   obtain ⟨ap15, fr22, rfl, rfl, e12, h23⟩ := q22
   replace ph0_0 := ph0_0.frame RI.lasts fr22 (ap15.o pa0_0)
   replace k5 := k5.frame RTArg.lasts fr22 (ap15.r (i := 0) rfl) (Dj.nil _)
   have rc8 : RC RTArg 5 Φ_25 ([[]] : List (List Nat)) [.int .i64 x15.1.K, .string x15.1.S, .int .i64 x15.1.V.K, .int .i64 x15.1.V.N, .string x15.1.V.S] ([x15.1] : List TArg) := RC.cons (c := [.int .i64 x15.1.K, .string x15.1.S, .int .i64 x15.1.V.K, .int .i64 x15.1.V.N, .string x15.1.V.S]) (cells := []) ⟨rfl, rfl⟩ rfl (RC.nil _ _ _)
   refine WM.one 4 (by kernel_rfl) (me rfl (fun _ v Φx D w1 hq hw => Kn.of Kf.nil (ai2 0 1 rfl rfl) hw) (e_lit (vs := [(0, .agg [.int .i64 x15.1.K, .string x15.1.S, .int .i64 x15.1.V.K, .int .i64 x15.1.V.N, .string x15.1.V.S].toArray)]) (C := #[.int .i64 x15.1.K, .string x15.1.S, .int .i64 x15.1.V.K, .int .i64 x15.1.V.N, .string x15.1.V.S]) RTArg.lasts Sl_169 Zr_137 rfl rfl rfl rfl (fill_made MC_137_1 (fill_cons (C' := [.int .i64 x15.1.K, .string x15.1.S, .int .i64 x15.1.V.K, .int .i64 x15.1.V.N, .string x15.1.V.S]) rfl rfl rfl rfl rfl (fill_nil))) rfl rc8 rfl (by simpa using Kw.nil)) rfl (fun v24 Φ_26 D11 q23 => ?_))
   obtain ⟨fr23, h24⟩ := q23
   replace h24 : OSl RTArg 137 5 Φ_26 [] v24 ([x15.1] : List TArg) := by simpa using h24
   replace ph0_0 := ph0_0.frame RI.lasts fr23 (Dj.empty _)
   replace k5 := k5.frame RTArg.lasts fr23 (Dj.empty _) (Dj.empty _)
   replace h23 := fr23 _ _ (by simp) h23
   obtain ⟨x16, hx16, h⟩ := bs h
   refine WM.one 5 (by kernel_rfl) (me rfl (fun _ v Φx D w1 hq hw => Kn.of Kf.nil (ai2 0 1 rfl rfl) hw) (e_appF RTArg.lasts RTArg.one RTArg.flat Sl_169 Ei_137 rfl rfl rfl rfl rfl (js := [2]) (Rr := [ob v24, [pb0]]) rfl k5 h24.rsl hx16) rfl (fun v25 Φ_27 D12 q24 => ?_))
   obtain ⟨⟨ap16, fr24⟩, h25⟩ := q24
   replace ph0_0 := ph0_0.frame RI.lasts fr24 (ap16.o pa0_0)
   replace h23 := fr24 _ _ ((ap16.r (i := 1) rfl) _ (by simp)) h23
   refine mq 6 rfl (by kernel_rfl) (kn Kf.nil (ai2 0 1 rfl rfl)) (q_fieldAddr Fld_171_1 rfl) rfl ?_
   refine WM.one 7 (by kernel_rfl) (ms rfl (fun hc => by cases hc) (s_store (i := 0) (vs := [v25]) (C' := [.string x2.1.Kind, v25, .bool x2.1.Not]) (O' := [(b_2, .cells #[.string x2.1.Kind, v25, .bool x2.1.Not] 171 (0, 0)), (b_1, .cells #[.string (⟨#[]⟩ : ByteArray), .slice none 0 0, .bool false] 171 (0, 0))]) Sz_169 rfl rfl rfl (one_cells h25.one) rfl rfl ⟨h25.one, trivial⟩ rfl rfl) rfl ?_)
   refine WM.nil (by kernel_rfl) <| ib ?_
   exact lback (ih3 (Φ_27, x16, v25, x15.2.i, x15.2.h) ⟨h, h25, h23, ph0_0⟩) ⟨rfl, rfl, rfl, trivial⟩ (fun w1 hw => (hw.sel (js := [2, 0]) rfl).selO (js := [0, 0]) rfl)
  refine xt rfl ?_
  exact wto (K (Φ_24, s8, u3, x14.2.i, x14.2.h, x2.1.Kind) ⟨h, k5, h22, ph0_0⟩) ⟨rfl, rfl, trivial⟩ (fun w1 hw => (hw.sel (js := [0, 0]) rfl).selO (js := [0, 0]) rfl)
 refine WT.skip ?_
 exact wto (K (Φ_3, x2.1.Args, v3, x3.2.i, x3.2.h, x2.1.Kind) ⟨h, h2, h4, ph0_0⟩) ⟨rfl, rfl, trivial⟩ (fun w1 hw => (hw.sel (js := [0, 0]) rfl).selO (js := [0, 0]) rfl)
theorem m_s_l7Any_ok {Φ : Hp} {w : World} (hΦ : In Φ w) (N : Nat) (p0 : Tl1Cur) {pv0_0 : Value} {pG0_0 : List Nat} {pb0 : Nat} (ph0_0 : RSl (RI .u8) 1 Φ pG0_0 pv0_0 p0.b) (pp0 : Φ pb0 = some (.cells #[pv0_0, .int .i64 p0.i, .int .i64 p0.h] 112 (0, 0))) (pd0_0 : Dj pG0_0 [[pb0]].flatten) (hB : [[pb0]].flatten.Nodup) (hlt : ∀ k ∈ [[pb0]].flatten, k < w.heap.size) {r : TCond × Tl1Cur} (h : m_s_l7Any N p0 = some r) :
  Calls Tryz.prog 127 [.pointer (some ⟨pb0, 0, none⟩)].toArray w (PostG Φ w [[pb0]].flatten (fun Φ' Fs v => v = .agg [.int .i64 r.1.Op, .int .i64 r.1.L.K, .string r.1.L.S, .int .i64 r.1.L.V.K, .int .i64 r.1.L.V.N, .string r.1.L.V.S, .int .i64 r.1.R.K, .string r.1.R.S, .int .i64 r.1.R.V.K, .int .i64 r.1.R.V.N, .string r.1.R.V.S].toArray ∧ Fs = [[pb0]] ∧ r.2.b = p0.b ∧ Φ' pb0 = some (.cells #[pv0_0, .int .i64 r.2.i, .int .i64 r.2.h] 112 (0, 0)))) := by
 refine enter Tryz.func127 rfl Tryz.ntmps127 rfl (St.start hΦ [[pb0]] hB hlt) ?_
 have pa0_0 := Old.mk hΦ ph0_0.kn pd0_0
 revert pa0_0
 generalize hb0 : (⟨w, [[pb0]].flatten, Φ⟩ : Base) = w0
 intro pa0_0
 unfold m_s_l7Any at h
 refine sr ?_
 refine ln (nz Zr_139) rfl (fun b_1 => ?_)
 refine en <| sr <| la rfl ?_
 obtain ⟨x1, hx1, h⟩ := bs h
 refine lc (k_call (js := [0]) (R := []) Fun_123 rfl rfl (fun w1 hw ap hl => m_s_l7Draw_ok hw.fro N p0 ph0_0 pp0 (ap.o pa0_0) ap.nd hl hx1)) rfl (fun v1 Φ_1 F1 q1 => ?_)
 obtain ⟨ap1, fr1, rfl, rfl, e1, h1⟩ := q1
 replace ph0_0 := ph0_0.frame RI.lasts fr1 (ap1.o pa0_0)
 refine ln (nz Zr_139) rfl (fun b_2 => ?_)
 refine soN 0 Sz_139 rfl ⟨rfl, rfl, rfl, rfl, rfl, rfl, rfl, rfl, rfl, rfl, rfl, trivial⟩ rfl ?_
 refine en <| sq <| sr <| la rfl ?_
 obtain ⟨x2, hx2, h⟩ := bs h
 refine lc (k_call (js := [0]) (R := []) Fun_73 rfl rfl (fun w1 hw ap hl => m_s_l1Below_ok hw.fro N (⟨p0.b, x1.2.i, x1.2.h⟩ : Tl1Cur) 8 ph0_0 h1 (ap.o pa0_0) ap.nd hl hx2)) rfl (fun v2 Φ_2 F2 q2 => ?_)
 obtain ⟨ap2, fr2, rfl, rfl, e2, h2⟩ := q2
 replace ph0_0 := ph0_0.frame RI.lasts fr2 (ap2.o pa0_0)
 refine en <| blk <| sr <| la rfl <| la rfl <| en ?_
 refine cut (σ := Hp × Int × Int × Int × Int × ByteArray × Int × Int × ByteArray × Int × ByteArray × Int × Int × ByteArray) (fun s => [(2, .pointer (some ⟨b_1, 0, none⟩)), (3, .pointer (some ⟨b_2, 0, none⟩))]) (fun s => St w0 s.1 [(b_2, .cells #[.int .i64 s.2.2.2.1, .int .i64 s.2.2.2.2.1, .string s.2.2.2.2.2.1, .int .i64 s.2.2.2.2.2.2.1, .int .i64 s.2.2.2.2.2.2.2.1, .string s.2.2.2.2.2.2.2.2.1, .int .i64 s.2.2.2.2.2.2.2.2.2.1, .string s.2.2.2.2.2.2.2.2.2.2.1, .int .i64 s.2.2.2.2.2.2.2.2.2.2.2.1, .int .i64 s.2.2.2.2.2.2.2.2.2.2.2.2.1, .string s.2.2.2.2.2.2.2.2.2.2.2.2.2] 139 (0, 0)), (b_1, .cells #[.int .i64 0, .int .i64 0, .string (⟨#[]⟩ : ByteArray), .int .i64 0, .int .i64 0, .string (⟨#[]⟩ : ByteArray), .int .i64 0, .string (⟨#[]⟩ : ByteArray), .int .i64 0, .int .i64 0, .string (⟨#[]⟩ : ByteArray)] 139 (0, 0))] [[pb0]]) (fun s => m_s_l7Any_j1 N p0 s.2.1 s.2.2.1 s.2.2.2.1 s.2.2.2.2.1 s.2.2.2.2.2.1 s.2.2.2.2.2.2.1 s.2.2.2.2.2.2.2.1 s.2.2.2.2.2.2.2.2.1 s.2.2.2.2.2.2.2.2.2.1 s.2.2.2.2.2.2.2.2.2.2.1 s.2.2.2.2.2.2.2.2.2.2.2.1 s.2.2.2.2.2.2.2.2.2.2.2.2.1 s.2.2.2.2.2.2.2.2.2.2.2.2.2 = some r ∧ (s.1 pb0 = some (.cells #[pv0_0, .int .i64 s.2.1, .int .i64 s.2.2.1] 112 (0, 0))) ∧ (RSl (RI .u8) 1 s.1 pG0_0 pv0_0 p0.b)) (fun s hm => ?_) (fun K => ?_)
 ·clear h
  obtain ⟨Φ_3, s1, s2, s3, s4, s5, s6, s7, s8, s9, s10, s11, s12, s13⟩ := s
  obtain ⟨h, k1, ph0_0⟩ := hm
  dsimp only at h k1 ph0_0 ⊢
  unfold m_s_l7Any_j1 at h
  refine ib <| sr <| ld11 Tn_139 0 rfl <| soN 1 Sz_139 rfl ⟨rfl, rfl, rfl, rfl, rfl, rfl, rfl, rfl, rfl, rfl, rfl, trivial⟩ rfl ?_
  refine en ?_
  refine WT.ret Tryz.func127 (resOk.one (rv_cell Tn_139 rfl (fun w1 hw => hw.rgO (i := 1) rfl 0 11 [.int .i64 s3, .int .i64 s4, .string s5, .int .i64 s6, .int .i64 s7, .string s8, .int .i64 s9, .string s10, .int .i64 s11, .int .i64 s12, .string s13] rfl) rfl)) (fun w1 hw => ?_)
  subst hb0
  cases h
  refine postG_of_St (js := [0]) hw rfl ⟨rfl, rfl, rfl, k1⟩
 refine cdh rfl h (fun c1 h => ?_) (fun c1 h => ?_)
 ·refine rgn <| la rfl ?_
  obtain ⟨x3, hx3, h⟩ := bs h
  refine lc (k_call (js := [0]) (R := []) Fun_73 rfl rfl (fun w1 hw ap hl => m_s_l1Below_ok hw.fro N (⟨p0.b, x2.2.i, x2.2.h⟩ : Tl1Cur) 6 ph0_0 h2 (ap.o pa0_0) ap.nd hl hx3)) rfl (fun v3 Φ_4 F3 q3 => ?_)
  obtain ⟨ap3, fr3, rfl, rfl, e3, h3⟩ := q3
  replace ph0_0 := ph0_0.frame RI.lasts fr3 (ap3.o pa0_0)
  refine lf Fld_139_0 rfl rfl rfl <| so1 0 Sz_3 rfl rfl ?_
  refine en ?_
  exact wto (K (Φ_4, x3.2.i, x3.2.h, x3.1, x1.1.L.K, x1.1.L.S, x1.1.L.V.K, x1.1.L.V.N, x1.1.L.V.S, x1.1.R.K, x1.1.R.S, x1.1.R.V.K, x1.1.R.V.N, x1.1.R.V.S) ⟨h, h3, ph0_0⟩) ⟨rfl, rfl, trivial⟩ (fun w1 hw => (hw.sel (js := [0]) rfl).selO (js := [0, 0]) rfl)
 refine sr <| la rfl <| la rfl <| en ?_
 refine cdh rfl h (fun c2 h => ?_) (fun c2 h => ?_)
 ·refine rgn <| la rfl ?_
  obtain ⟨x4, hx4, h⟩ := bs h
  refine lc (k_call (js := [0]) (R := []) Fun_173 rfl rfl (fun w1 hw ap hl => m_s_l6Arg_ok hw.fro N (⟨p0.b, x2.2.i, x2.2.h⟩ : Tl1Cur) ph0_0 h2 (ap.o pa0_0) ap.nd hl hx4)) rfl (fun v4 Φ_5 F4 q4 => ?_)
  obtain ⟨ap4, fr4, rfl, rfl, e4, h4⟩ := q4
  replace ph0_0 := ph0_0.frame RI.lasts fr4 (ap4.o pa0_0)
  refine lf Fld_139_1 rfl rfl rfl <| soN 0 Sz_137 rfl ⟨rfl, rfl, rfl, rfl, rfl, trivial⟩ rfl ?_
  refine en ?_
  exact wto (K (Φ_5, x4.2.i, x4.2.h, x1.1.Op, x4.1.K, x4.1.S, x4.1.V.K, x4.1.V.N, x4.1.V.S, x1.1.R.K, x1.1.R.S, x1.1.R.V.K, x1.1.R.V.N, x1.1.R.V.S) ⟨h, h4, ph0_0⟩) ⟨rfl, rfl, trivial⟩ (fun w1 hw => (hw.sel (js := [0]) rfl).selO (js := [0, 0]) rfl)
 refine sr <| la rfl <| la rfl <| en ?_
 refine cdh rfl h (fun c3 h => ?_) (fun c3 h => ?_)
 ·refine rgn <| la rfl ?_
  obtain ⟨x5, hx5, h⟩ := bs h
  refine lc (k_call (js := [0]) (R := []) Fun_73 rfl rfl (fun w1 hw ap hl => m_s_l1Below_ok hw.fro N (⟨p0.b, x2.2.i, x2.2.h⟩ : Tl1Cur) 5 ph0_0 h2 (ap.o pa0_0) ap.nd hl hx5)) rfl (fun v5 Φ_6 F5 q5 => ?_)
  obtain ⟨ap5, fr5, rfl, rfl, e5, h5⟩ := q5
  replace ph0_0 := ph0_0.frame RI.lasts fr5 (ap5.o pa0_0)
  refine lq (q_build (vs := [(0, .int .i64 x5.1)]) (C := #[.int .i64 x5.1, .string (⟨#[]⟩ : ByteArray), .int .i64 0, .int .i64 0, .string (⟨#[]⟩ : ByteArray)]) Pl_137 Zr_137 rfl (fill_cons (C' := [.int .i64 x5.1, .string ⟨#[]⟩, .int .i64 0, .int .i64 0, .string ⟨#[]⟩]) rfl rfl rfl rfl rfl (fill_nil))) rfl ?_
  refine lf Fld_139_2 rfl rfl rfl <| soN 0 Sz_137 rfl ⟨rfl, rfl, rfl, rfl, rfl, trivial⟩ rfl ?_
  refine en ?_
  exact wto (K (Φ_6, x5.2.i, x5.2.h, x1.1.Op, x1.1.L.K, x1.1.L.S, x1.1.L.V.K, x1.1.L.V.N, x1.1.L.V.S, x5.1, (⟨#[]⟩ : ByteArray), 0, 0, (⟨#[]⟩ : ByteArray)) ⟨h, h5, ph0_0⟩) ⟨rfl, rfl, trivial⟩ (fun w1 hw => (hw.sel (js := [0]) rfl).selO (js := [0, 0]) rfl)
 refine WT.skip ?_
 exact wto (K (Φ_2, x2.2.i, x2.2.h, x1.1.Op, x1.1.L.K, x1.1.L.S, x1.1.L.V.K, x1.1.L.V.N, x1.1.L.V.S, x1.1.R.K, x1.1.R.S, x1.1.R.V.K, x1.1.R.V.N, x1.1.R.V.S) ⟨h, h2, ph0_0⟩) ⟨rfl, rfl, trivial⟩ (fun w1 hw => (hw.sel (js := [0]) rfl).selO (js := [0, 0]) rfl)
theorem m_s_l8Any_ok {Φ : Hp} {w : World} (hΦ : In Φ w) (N : Nat) (p0 : Tl1Cur) {pv0_0 : Value} {pG0_0 : List Nat} {pb0 : Nat} (ph0_0 : RSl (RI .u8) 1 Φ pG0_0 pv0_0 p0.b) (pp0 : Φ pb0 = some (.cells #[pv0_0, .int .i64 p0.i, .int .i64 p0.h] 112 (0, 0))) (pd0_0 : Dj pG0_0 [[pb0]].flatten) (hB : [[pb0]].flatten.Nodup) (hlt : ∀ k ∈ [[pb0]].flatten, k < w.heap.size) {r : TAct × Tl1Cur} (h : m_s_l8Any N p0 = some r) :
  Calls Tryz.prog 128 [.pointer (some ⟨pb0, 0, none⟩)].toArray w (PostG Φ w [[pb0]].flatten (fun Φ' Fs v => ∃ (sr_0_0 : Value), v = .agg [.int .i64 r.1.Kind, .string r.1.Name, sr_0_0, .int .i64 r.1.N, .string r.1.Undo].toArray ∧ Fs = [ob sr_0_0, [pb0]] ∧ OSl RTExpr 191 11 Φ' [] sr_0_0 r.1.Args ∧ r.2.b = p0.b ∧ Φ' pb0 = some (.cells #[pv0_0, .int .i64 r.2.i, .int .i64 r.2.h] 112 (0, 0)))) := by
 refine enter Tryz.func128 rfl Tryz.ntmps128 rfl (St.start hΦ [[pb0]] hB hlt) ?_
 have pa0_0 := Old.mk hΦ ph0_0.kn pd0_0
 revert pa0_0
 generalize hb0 : (⟨w, [[pb0]].flatten, Φ⟩ : Base) = w0
 intro pa0_0
 unfold m_s_l8Any at h
 refine sr ?_
 refine ln (nz Zr_143) rfl (fun b_1 => ?_)
 refine en <| sr <| la rfl ?_
 obtain ⟨x1, hx1, h⟩ := bs h
 refine lc (k_call (js := [0]) (R := []) Fun_125 rfl rfl (fun w1 hw ap hl => m_s_l8Draw_ok hw.fro N p0 2 ph0_0 pp0 (ap.o pa0_0) ap.nd hl hx1)) rfl (fun v1 Φ_1 F1 q1 => ?_)
 obtain ⟨ap1, fr1, v2, rfl, rfl, h1, e1, h2⟩ := q1
 replace ph0_0 := ph0_0.frame RI.lasts fr1 (ap1.o pa0_0)
 refine ln (nz Zr_143) rfl (fun b_2 => ?_)
 refine soN 0 Sz_143 rfl ⟨rfl, rfl, h1.one, rfl, rfl, trivial⟩ rfl ?_
 refine en <| sq <| sr <| la rfl ?_
 obtain ⟨x2, hx2, h⟩ := bs h
 refine lc (k_call (js := [1]) (R := [ob v2]) Fun_73 rfl rfl (fun w1 hw ap hl => m_s_l1Below_ok hw.fro N (⟨p0.b, x1.2.i, x1.2.h⟩ : Tl1Cur) 10 ph0_0 h2 (ap.o pa0_0) ap.nd hl hx2)) rfl (fun v3 Φ_2 F2 q2 => ?_)
 obtain ⟨ap2, fr2, rfl, rfl, e2, h3⟩ := q2
 replace ph0_0 := ph0_0.frame RI.lasts fr2 (ap2.o pa0_0)
 replace h1 := h1.frame RTExpr.lasts fr2 (ap2.r (i := 0) rfl) (Dj.nil _)
 refine en <| blk <| sr <| la rfl <| la rfl <| en ?_
 refine cut (σ := Hp × (List TExpr) × Value × Int × Int × Int × ByteArray × Int × ByteArray) (fun s => [(2, .pointer (some ⟨b_1, 0, none⟩)), (3, .pointer (some ⟨b_2, 0, none⟩))]) (fun s => St w0 s.1 [(b_2, .cells #[.int .i64 s.2.2.2.2.2.1, .string s.2.2.2.2.2.2.1, s.2.2.1, .int .i64 s.2.2.2.2.2.2.2.1, .string s.2.2.2.2.2.2.2.2] 143 (0, 0)), (b_1, .cells #[.int .i64 0, .string (⟨#[]⟩ : ByteArray), .slice none 0 0, .int .i64 0, .string (⟨#[]⟩ : ByteArray)] 143 (0, 0))] [[pb0], ob s.2.2.1]) (fun s => m_s_l8Any_j1 N p0 s.2.1 s.2.2.2.1 s.2.2.2.2.1 s.2.2.2.2.2.1 s.2.2.2.2.2.2.1 s.2.2.2.2.2.2.2.1 s.2.2.2.2.2.2.2.2 = some r ∧ (OSl RTExpr 191 11 s.1 [] s.2.2.1 s.2.1) ∧ (s.1 pb0 = some (.cells #[pv0_0, .int .i64 s.2.2.2.1, .int .i64 s.2.2.2.2.1] 112 (0, 0))) ∧ (RSl (RI .u8) 1 s.1 pG0_0 pv0_0 p0.b)) (fun s hm => ?_) (fun K => ?_)
 ·clear h
  obtain ⟨Φ_3, s1, u1, s2, s3, s4, s5, s6, s7⟩ := s
  obtain ⟨h, k1, k2, ph0_0⟩ := hm
  dsimp only at h k1 k2 ph0_0 ⊢
  unfold m_s_l8Any_j1 at h
  refine ib <| sr <| ld5 Tn_143 0 rfl <| soN 1 Sz_143 rfl ⟨rfl, rfl, k1.one, rfl, rfl, trivial⟩ rfl ?_
  refine en ?_
  refine WT.ret Tryz.func128 (resOk.one (rv_cell Tn_143 rfl (fun w1 hw => hw.rgO (i := 1) rfl 0 5 [.int .i64 s4, .string s5, u1, .int .i64 s6, .string s7] rfl) rfl)) (fun w1 hw => ?_)
  subst hb0
  cases h
  refine postG_of_St (js := [1, 0]) hw rfl ⟨u1, rfl, rfl, k1, rfl, k2⟩
 refine cdh rfl h (fun c1 h => ?_) (fun c1 h => ?_)
 ·refine rgn <| la rfl ?_
  obtain ⟨x3, hx3, h⟩ := bs h
  refine lc (k_call (js := [0]) (R := [ob v2]) Fun_73 rfl rfl (fun w1 hw ap hl => m_s_l1Below_ok hw.fro N (⟨p0.b, x2.2.i, x2.2.h⟩ : Tl1Cur) 8 ph0_0 h3 (ap.o pa0_0) ap.nd hl hx3)) rfl (fun v4 Φ_4 F3 q3 => ?_)
  obtain ⟨ap3, fr3, rfl, rfl, e3, h4⟩ := q3
  replace ph0_0 := ph0_0.frame RI.lasts fr3 (ap3.o pa0_0)
  replace h1 := h1.frame RTExpr.lasts fr3 (ap3.r (i := 0) rfl) (Dj.nil _)
  refine lf Fld_143_0 rfl rfl rfl <| so1 0 Sz_3 rfl rfl ?_
  refine en ?_
  exact wto (K (Φ_4, x1.1.Args, v2, x3.2.i, x3.2.h, x3.1, x1.1.Name, x1.1.N, x1.1.Undo) ⟨h, h1, h4, ph0_0⟩) ⟨rfl, rfl, trivial⟩ (fun w1 hw => (hw.sel (js := [0, 0]) rfl).selO (js := [0, 0]) rfl)
 refine sr <| la rfl <| la rfl <| en ?_
 refine cdh rfl h (fun c2 h => ?_) (fun c2 h => ?_)
 ·refine rgn <| la rfl ?_
  have rc1 : RC RS 1 Φ_2 ([[], [], []] : List (List Nat)) [.string (⟨#[]⟩ : ByteArray), .string (⟨#[65]⟩ : ByteArray), .string (⟨#[120]⟩ : ByteArray)] ([(⟨#[]⟩ : ByteArray), (⟨#[65]⟩ : ByteArray), (⟨#[120]⟩ : ByteArray)] : List ByteArray) := RC.cons (c := [.string (⟨#[]⟩ : ByteArray)]) (cells := [.string (⟨#[65]⟩ : ByteArray), .string (⟨#[120]⟩ : ByteArray)]) ⟨rfl, rfl⟩ rfl (RC.cons (c := [.string (⟨#[65]⟩ : ByteArray)]) (cells := [.string (⟨#[120]⟩ : ByteArray)]) ⟨rfl, rfl⟩ rfl (RC.cons (c := [.string (⟨#[120]⟩ : ByteArray)]) (cells := []) ⟨rfl, rfl⟩ rfl (RC.nil _ _ _)))
  refine le' (e_lit (vs := [(0, .string (⟨#[]⟩ : ByteArray)), (1, .string (⟨#[65]⟩ : ByteArray)), (2, .string (⟨#[120]⟩ : ByteArray))]) (C := #[.string (⟨#[]⟩ : ByteArray), .string (⟨#[65]⟩ : ByteArray), .string (⟨#[120]⟩ : ByteArray)]) RS.lasts Sl_114 Zr_9 rfl rfl rfl rfl (fill_made MC_9_3 (fill_cons (C' := [.string (⟨#[]⟩ : ByteArray), .string ⟨#[]⟩, .string ⟨#[]⟩]) rfl rfl rfl rfl rfl (fill_cons (C' := [.string (⟨#[]⟩ : ByteArray), .string (⟨#[65]⟩ : ByteArray), .string ⟨#[]⟩]) rfl rfl rfl rfl rfl (fill_cons (C' := [.string (⟨#[]⟩ : ByteArray), .string (⟨#[65]⟩ : ByteArray), .string (⟨#[120]⟩ : ByteArray)]) rfl rfl rfl rfl rfl (fill_nil))))) rfl rc1 rfl (by simpa using Kw.nil)) rfl (fun v5 Φ_5 D1 q4 => ?_)
  obtain ⟨fr4, h5⟩ := q4
  replace h5 : OSl RS 9 1 Φ_5 [] v5 ([(⟨#[]⟩ : ByteArray), (⟨#[65]⟩ : ByteArray), (⟨#[120]⟩ : ByteArray)] : List ByteArray) := by simpa using h5
  replace ph0_0 := ph0_0.frame RI.lasts fr4 (Dj.empty _)
  replace h1 := h1.frame RTExpr.lasts fr4 (Dj.empty _) (Dj.empty _)
  replace h3 := fr4 _ _ (by simp) h3
  obtain ⟨x4, hx4, h⟩ := bs h
  refine lc (k_call (js := [1]) (R := [ob v5, ob v2]) Fun_72 rfl rfl (fun w1 hw ap hl => m_s_l1Str_ok hw.fro N (⟨p0.b, x2.2.i, x2.2.h⟩ : Tl1Cur) ([(⟨#[]⟩ : ByteArray), (⟨#[65]⟩ : ByteArray), (⟨#[120]⟩ : ByteArray)] : List ByteArray) ph0_0 h3 h5.rsl (ap.o pa0_0) (Dj.app (ap.r (i := 0) rfl) (Dj.nil _)) ap.nd hl hx4)) rfl (fun v6 Φ_6 F4 q5 => ?_)
  obtain ⟨ap4, fr5, rfl, rfl, e4, h6⟩ := q5
  replace ph0_0 := ph0_0.frame RI.lasts fr5 (ap4.o pa0_0)
  replace h1 := h1.frame RTExpr.lasts fr5 (ap4.r (i := 1) rfl) (Dj.nil _)
  refine lf Fld_143_1 rfl rfl rfl <| so1 0 Sz_9 rfl rfl ?_
  refine en ?_
  exact wto (K (Φ_6, x1.1.Args, v2, x4.2.i, x4.2.h, x1.1.Kind, x4.1, x1.1.N, x1.1.Undo) ⟨h, h1, h6, ph0_0⟩) ⟨rfl, rfl, trivial⟩ (fun w1 hw => (hw.sel (js := [0, 1]) rfl).selO (js := [0, 0]) rfl)
 refine sr <| la rfl <| la rfl <| en ?_
 refine cdh rfl h (fun c3 h => ?_) (fun c3 h => ?_)
 ·refine rgn <| la rfl ?_
  have rc2 : RC (RI .i64) 1 Φ_2 ([[], [], [], []] : List (List Nat)) [.int .i64 (-1), .int .i64 7, .int .i64 8, .int .i64 100001] ([(-1), 7, 8, 100001] : List Int) := RC.cons (c := [.int .i64 (-1)]) (cells := [.int .i64 7, .int .i64 8, .int .i64 100001]) ⟨rfl, rfl⟩ rfl (RC.cons (c := [.int .i64 7]) (cells := [.int .i64 8, .int .i64 100001]) ⟨rfl, rfl⟩ rfl (RC.cons (c := [.int .i64 8]) (cells := [.int .i64 100001]) ⟨rfl, rfl⟩ rfl (RC.cons (c := [.int .i64 100001]) (cells := []) ⟨rfl, rfl⟩ rfl (RC.nil _ _ _))))
  refine le' (e_lit (vs := [(0, .int .i64 (-1)), (1, .int .i64 7), (2, .int .i64 8), (3, .int .i64 100001)]) (C := #[.int .i64 (-1), .int .i64 7, .int .i64 8, .int .i64 100001]) RI.lasts Sl_41 Zr_3 rfl rfl rfl rfl (fill_made MC_3_4 (fill_cons (C' := [.int .i64 (-1), .int .i64 0, .int .i64 0, .int .i64 0]) rfl rfl rfl rfl rfl (fill_cons (C' := [.int .i64 (-1), .int .i64 7, .int .i64 0, .int .i64 0]) rfl rfl rfl rfl rfl (fill_cons (C' := [.int .i64 (-1), .int .i64 7, .int .i64 8, .int .i64 0]) rfl rfl rfl rfl rfl (fill_cons (C' := [.int .i64 (-1), .int .i64 7, .int .i64 8, .int .i64 100001]) rfl rfl rfl rfl rfl (fill_nil)))))) rfl rc2 rfl (by simpa using Kw.nil)) rfl (fun v7 Φ_7 D2 q6 => ?_)
  obtain ⟨fr6, h7⟩ := q6
  replace h7 : OSl (RI .i64) 3 1 Φ_7 [] v7 ([(-1), 7, 8, 100001] : List Int) := by simpa using h7
  replace ph0_0 := ph0_0.frame RI.lasts fr6 (Dj.empty _)
  replace h1 := h1.frame RTExpr.lasts fr6 (Dj.empty _) (Dj.empty _)
  replace h3 := fr6 _ _ (by simp) h3
  obtain ⟨x5, hx5, h⟩ := bs h
  refine lc (k_call (js := [1]) (R := [ob v7, ob v2]) Fun_121 rfl rfl (fun w1 hw ap hl => m_s_l1Int_ok hw.fro N (⟨p0.b, x2.2.i, x2.2.h⟩ : Tl1Cur) ([(-1), 7, 8, 100001] : List Int) ph0_0 h3 h7.rsl (ap.o pa0_0) (Dj.app (ap.r (i := 0) rfl) (Dj.nil _)) ap.nd hl hx5)) rfl (fun v8 Φ_8 F5 q7 => ?_)
  obtain ⟨ap5, fr7, rfl, rfl, e5, h8⟩ := q7
  replace ph0_0 := ph0_0.frame RI.lasts fr7 (ap5.o pa0_0)
  replace h1 := h1.frame RTExpr.lasts fr7 (ap5.r (i := 1) rfl) (Dj.nil _)
  refine lf Fld_143_3 rfl rfl rfl <| so1 0 Sz_3 rfl rfl ?_
  refine en ?_
  exact wto (K (Φ_8, x1.1.Args, v2, x5.2.i, x5.2.h, x1.1.Kind, x1.1.Name, x5.1, x1.1.Undo) ⟨h, h1, h8, ph0_0⟩) ⟨rfl, rfl, trivial⟩ (fun w1 hw => (hw.sel (js := [0, 1]) rfl).selO (js := [0, 0]) rfl)
 refine sr <| la rfl <| la rfl <| en ?_
 refine cdh rfl h (fun c4 h => ?_) (fun c4 h => ?_)
 ·refine rgn <| la rfl ?_
  have rc3 : RC RS 1 Φ_2 ([[], [], []] : List (List Nat)) [.string (⟨#[]⟩ : ByteArray), .string (⟨#[65]⟩ : ByteArray), .string (⟨#[120]⟩ : ByteArray)] ([(⟨#[]⟩ : ByteArray), (⟨#[65]⟩ : ByteArray), (⟨#[120]⟩ : ByteArray)] : List ByteArray) := RC.cons (c := [.string (⟨#[]⟩ : ByteArray)]) (cells := [.string (⟨#[65]⟩ : ByteArray), .string (⟨#[120]⟩ : ByteArray)]) ⟨rfl, rfl⟩ rfl (RC.cons (c := [.string (⟨#[65]⟩ : ByteArray)]) (cells := [.string (⟨#[120]⟩ : ByteArray)]) ⟨rfl, rfl⟩ rfl (RC.cons (c := [.string (⟨#[120]⟩ : ByteArray)]) (cells := []) ⟨rfl, rfl⟩ rfl (RC.nil _ _ _)))
  refine le' (e_lit (vs := [(0, .string (⟨#[]⟩ : ByteArray)), (1, .string (⟨#[65]⟩ : ByteArray)), (2, .string (⟨#[120]⟩ : ByteArray))]) (C := #[.string (⟨#[]⟩ : ByteArray), .string (⟨#[65]⟩ : ByteArray), .string (⟨#[120]⟩ : ByteArray)]) RS.lasts Sl_114 Zr_9 rfl rfl rfl rfl (fill_made MC_9_3 (fill_cons (C' := [.string (⟨#[]⟩ : ByteArray), .string ⟨#[]⟩, .string ⟨#[]⟩]) rfl rfl rfl rfl rfl (fill_cons (C' := [.string (⟨#[]⟩ : ByteArray), .string (⟨#[65]⟩ : ByteArray), .string ⟨#[]⟩]) rfl rfl rfl rfl rfl (fill_cons (C' := [.string (⟨#[]⟩ : ByteArray), .string (⟨#[65]⟩ : ByteArray), .string (⟨#[120]⟩ : ByteArray)]) rfl rfl rfl rfl rfl (fill_nil))))) rfl rc3 rfl (by simpa using Kw.nil)) rfl (fun v9 Φ_9 D3 q8 => ?_)
  obtain ⟨fr8, h9⟩ := q8
  replace h9 : OSl RS 9 1 Φ_9 [] v9 ([(⟨#[]⟩ : ByteArray), (⟨#[65]⟩ : ByteArray), (⟨#[120]⟩ : ByteArray)] : List ByteArray) := by simpa using h9
  replace ph0_0 := ph0_0.frame RI.lasts fr8 (Dj.empty _)
  replace h1 := h1.frame RTExpr.lasts fr8 (Dj.empty _) (Dj.empty _)
  replace h3 := fr8 _ _ (by simp) h3
  obtain ⟨x6, hx6, h⟩ := bs h
  refine lc (k_call (js := [1]) (R := [ob v9, ob v2]) Fun_72 rfl rfl (fun w1 hw ap hl => m_s_l1Str_ok hw.fro N (⟨p0.b, x2.2.i, x2.2.h⟩ : Tl1Cur) ([(⟨#[]⟩ : ByteArray), (⟨#[65]⟩ : ByteArray), (⟨#[120]⟩ : ByteArray)] : List ByteArray) ph0_0 h3 h9.rsl (ap.o pa0_0) (Dj.app (ap.r (i := 0) rfl) (Dj.nil _)) ap.nd hl hx6)) rfl (fun v10 Φ_10 F6 q9 => ?_)
  obtain ⟨ap6, fr9, rfl, rfl, e6, h10⟩ := q9
  replace ph0_0 := ph0_0.frame RI.lasts fr9 (ap6.o pa0_0)
  replace h1 := h1.frame RTExpr.lasts fr9 (ap6.r (i := 1) rfl) (Dj.nil _)
  refine lf Fld_143_4 rfl rfl rfl <| so1 0 Sz_9 rfl rfl ?_
  refine en ?_
  exact wto (K (Φ_10, x1.1.Args, v2, x6.2.i, x6.2.h, x1.1.Kind, x1.1.Name, x1.1.N, x6.1) ⟨h, h1, h10, ph0_0⟩) ⟨rfl, rfl, trivial⟩ (fun w1 hw => (hw.sel (js := [0, 1]) rfl).selO (js := [0, 0]) rfl)
 refine sr <| la rfl <| la rfl <| en ?_
 refine cdh rfl h (fun c5 h => ?_) (fun c5 h => ?_)
 ·refine WT.mix (Kn Φ_2 [] [(b_2, .cells #[.int .i64 x1.1.Kind, .string x1.1.Name, v2, .int .i64 x1.1.N, .string x1.1.Undo] 143 (0, 0)), (b_1, .cells #[.int .i64 0, .string (⟨#[]⟩ : ByteArray), .slice none 0 0, .int .i64 0, .string (⟨#[]⟩ : ByteArray)] 143 (0, 0))]) (fun i => match i with | 13 => false | _ => true) mixed (fun _ h => h.drew) <| mq 0 rfl (by kernel_rfl) (kn Kf.nil (ai2 0 1 rfl rfl)) (q_fieldAddr Fld_143_2 rfl) rfl ?_
  refine mq 1 rfl (by kernel_rfl) (kn Kf.nil (ai2 0 1 rfl rfl)) (q_load1 T1_141 rfl (fun w1 hw => hw.rgO (i := 0) rfl 2 1 [v2] rfl)) rfl <| ma 2 rfl (by kernel_rfl) (kn Kf.nil (ai2 0 1 rfl rfl)) rfl <| ma 5 rfl (by kernel_rfl) (kn Kf.nil (ai2 0 1 rfl rfl)) rfl <| ma 7 rfl (by kernel_rfl) (kn Kf.nil (ai2 0 1 rfl rfl)) rfl ?_
  have rc4 : RC RS 1 Φ_2 ([[], []] : List (List Nat)) [.string (⟨#[]⟩ : ByteArray), .string (⟨#[42]⟩ : ByteArray)] ([(⟨#[]⟩ : ByteArray), (⟨#[42]⟩ : ByteArray)] : List ByteArray) := RC.cons (c := [.string (⟨#[]⟩ : ByteArray)]) (cells := [.string (⟨#[42]⟩ : ByteArray)]) ⟨rfl, rfl⟩ rfl (RC.cons (c := [.string (⟨#[42]⟩ : ByteArray)]) (cells := []) ⟨rfl, rfl⟩ rfl (RC.nil _ _ _))
  refine WM.one 3 (by kernel_rfl) (me rfl (fun _ v Φx D w1 hq hw => Kn.of Kf.nil (ai2 0 1 rfl rfl) hw) (e_lit (vs := [(0, .string (⟨#[]⟩ : ByteArray)), (1, .string (⟨#[42]⟩ : ByteArray))]) (C := #[.string (⟨#[]⟩ : ByteArray), .string (⟨#[42]⟩ : ByteArray)]) RS.lasts Sl_114 Zr_9 rfl rfl rfl rfl (fill_made MC_9_2 (fill_cons (C' := [.string (⟨#[]⟩ : ByteArray), .string ⟨#[]⟩]) rfl rfl rfl rfl rfl (fill_cons (C' := [.string (⟨#[]⟩ : ByteArray), .string (⟨#[42]⟩ : ByteArray)]) rfl rfl rfl rfl rfl (fill_nil)))) rfl rc4 rfl (by simpa using Kw.nil)) rfl (fun v11 Φ_11 D4 q10 => ?_))
  obtain ⟨fr10, h11⟩ := q10
  replace h11 : OSl RS 9 1 Φ_11 [] v11 ([(⟨#[]⟩ : ByteArray), (⟨#[42]⟩ : ByteArray)] : List ByteArray) := by simpa using h11
  replace ph0_0 := ph0_0.frame RI.lasts fr10 (Dj.empty _)
  replace h1 := h1.frame RTExpr.lasts fr10 (Dj.empty _) (Dj.empty _)
  replace h3 := fr10 _ _ (by simp) h3
  obtain ⟨x7, hx7, h⟩ := bs h
  refine WM.one 4 (by kernel_rfl) (mc rfl (fun _ v Φx D w1 hq hw => Kn.of Kf.nil (ai2 0 1 rfl rfl) hw) (k_call (js := [1]) (R := [ob v11, ob v2]) Fun_72 rfl rfl (fun w1 hw ap hl => m_s_l1Str_ok hw.fro N (⟨p0.b, x2.2.i, x2.2.h⟩ : Tl1Cur) ([(⟨#[]⟩ : ByteArray), (⟨#[42]⟩ : ByteArray)] : List ByteArray) ph0_0 h3 h11.rsl (ap.o pa0_0) (Dj.app (ap.r (i := 0) rfl) (Dj.nil _)) ap.nd hl hx7)) rfl (fun v12 Φ_12 F7 q11 => ?_))
  obtain ⟨ap7, fr11, rfl, rfl, e7, h12⟩ := q11
  replace ph0_0 := ph0_0.frame RI.lasts fr11 (ap7.o pa0_0)
  replace h1 := h1.frame RTExpr.lasts fr11 (ap7.r (i := 1) rfl) (Dj.nil _)
  obtain ⟨x8, hx8, h⟩ := bs h
  refine WM.one 6 (by kernel_rfl) (mc rfl (fun _ v Φx D w1 hq hw => Kn.of Kf.nil (ai2 0 1 rfl rfl) hw) (k_call (js := [0]) (R := [ob v11, ob v2]) Fun_173 rfl rfl (fun w1 hw ap hl => m_s_l6Arg_ok hw.fro N (⟨p0.b, x7.2.i, x7.2.h⟩ : Tl1Cur) ph0_0 h12 (ap.o pa0_0) ap.nd hl hx8)) rfl (fun v13 Φ_13 F8 q12 => ?_))
  obtain ⟨ap8, fr12, rfl, rfl, e8, h13⟩ := q12
  replace ph0_0 := ph0_0.frame RI.lasts fr12 (ap8.o pa0_0)
  replace h1 := h1.frame RTExpr.lasts fr12 (ap8.r (i := 1) rfl) (Dj.nil _)
  obtain ⟨x9, hx9, h⟩ := bs h
  refine WM.one 8 (by kernel_rfl) (mc rfl (fun _ v Φx D w1 hq hw => Kn.of Kf.nil (ai2 0 1 rfl rfl) hw) (k_call (js := [0]) (R := [ob v11, ob v2]) Fun_173 rfl rfl (fun w1 hw ap hl => m_s_l6Arg_ok hw.fro N (⟨p0.b, x8.2.i, x8.2.h⟩ : Tl1Cur) ph0_0 h13 (ap.o pa0_0) ap.nd hl hx9)) rfl (fun v14 Φ_14 F9 q13 => ?_))
  obtain ⟨ap9, fr13, rfl, rfl, e9, h14⟩ := q13
  replace ph0_0 := ph0_0.frame RI.lasts fr13 (ap9.o pa0_0)
  replace h1 := h1.frame RTExpr.lasts fr13 (ap9.r (i := 1) rfl) (Dj.nil _)
  refine mq 9 rfl (by kernel_rfl) (kn Kf.nil (ai2 0 1 rfl rfl)) (q_build (vs := [(0, .string x7.1), (1, .agg [.int .i64 x8.1.K, .string x8.1.S, .int .i64 x8.1.V.K, .int .i64 x8.1.V.N, .string x8.1.V.S].toArray), (2, .agg [.int .i64 x9.1.K, .string x9.1.S, .int .i64 x9.1.V.K, .int .i64 x9.1.V.N, .string x9.1.V.S].toArray)]) (C := #[.string x7.1, .int .i64 x8.1.K, .string x8.1.S, .int .i64 x8.1.V.K, .int .i64 x8.1.V.N, .string x8.1.V.S, .int .i64 x9.1.K, .string x9.1.S, .int .i64 x9.1.V.K, .int .i64 x9.1.V.N, .string x9.1.V.S]) Pl_191 Zr_191 rfl (fill_cons (C' := [.string x7.1, .int .i64 0, .string ⟨#[]⟩, .int .i64 0, .int .i64 0, .string ⟨#[]⟩, .int .i64 0, .string ⟨#[]⟩, .int .i64 0, .int .i64 0, .string ⟨#[]⟩]) rfl rfl rfl rfl rfl (fill_cons (C' := [.string x7.1, .int .i64 x8.1.K, .string x8.1.S, .int .i64 x8.1.V.K, .int .i64 x8.1.V.N, .string x8.1.V.S, .int .i64 0, .string ⟨#[]⟩, .int .i64 0, .int .i64 0, .string ⟨#[]⟩]) rfl rfl rfl rfl rfl (fill_cons (C' := [.string x7.1, .int .i64 x8.1.K, .string x8.1.S, .int .i64 x8.1.V.K, .int .i64 x8.1.V.N, .string x8.1.V.S, .int .i64 x9.1.K, .string x9.1.S, .int .i64 x9.1.V.K, .int .i64 x9.1.V.N, .string x9.1.V.S]) rfl rfl rfl rfl rfl (fill_nil))))) rfl ?_
  have rc5 : RC RTExpr 11 Φ_14 ([[]] : List (List Nat)) [.string x7.1, .int .i64 x8.1.K, .string x8.1.S, .int .i64 x8.1.V.K, .int .i64 x8.1.V.N, .string x8.1.V.S, .int .i64 x9.1.K, .string x9.1.S, .int .i64 x9.1.V.K, .int .i64 x9.1.V.N, .string x9.1.V.S] ([(⟨x7.1, x8.1, x9.1⟩ : TExpr)] : List TExpr) := RC.cons (c := [.string x7.1, .int .i64 x8.1.K, .string x8.1.S, .int .i64 x8.1.V.K, .int .i64 x8.1.V.N, .string x8.1.V.S, .int .i64 x9.1.K, .string x9.1.S, .int .i64 x9.1.V.K, .int .i64 x9.1.V.N, .string x9.1.V.S]) (cells := []) ⟨rfl, rfl⟩ rfl (RC.nil _ _ _)
  refine WM.one 10 (by kernel_rfl) (me rfl (fun _ v Φx D w1 hq hw => Kn.of Kf.nil (ai2 0 1 rfl rfl) hw) (e_lit (vs := [(0, .agg [.string x7.1, .int .i64 x8.1.K, .string x8.1.S, .int .i64 x8.1.V.K, .int .i64 x8.1.V.N, .string x8.1.V.S, .int .i64 x9.1.K, .string x9.1.S, .int .i64 x9.1.V.K, .int .i64 x9.1.V.N, .string x9.1.V.S].toArray)]) (C := #[.string x7.1, .int .i64 x8.1.K, .string x8.1.S, .int .i64 x8.1.V.K, .int .i64 x8.1.V.N, .string x8.1.V.S, .int .i64 x9.1.K, .string x9.1.S, .int .i64 x9.1.V.K, .int .i64 x9.1.V.N, .string x9.1.V.S]) RTExpr.lasts Sl_141 Zr_191 rfl rfl rfl rfl (fill_made MC_191_1 (fill_cons (C' := [.string x7.1, .int .i64 x8.1.K, .string x8.1.S, .int .i64 x8.1.V.K, .int .i64 x8.1.V.N, .string x8.1.V.S, .int .i64 x9.1.K, .string x9.1.S, .int .i64 x9.1.V.K, .int .i64 x9.1.V.N, .string x9.1.V.S]) rfl rfl rfl rfl rfl (fill_nil))) rfl rc5 rfl (by simpa using Kw.nil)) rfl (fun v15 Φ_15 D5 q14 => ?_))
  obtain ⟨fr14, h15⟩ := q14
  replace h15 : OSl RTExpr 191 11 Φ_15 [] v15 ([(⟨x7.1, x8.1, x9.1⟩ : TExpr)] : List TExpr) := by simpa using h15
  replace ph0_0 := ph0_0.frame RI.lasts fr14 (Dj.empty _)
  replace h1 := h1.frame RTExpr.lasts fr14 (Dj.empty _) (Dj.empty _)
  replace h14 := fr14 _ _ (by simp) h14
  obtain ⟨x10, hx10, h⟩ := bs h
  refine WM.one 11 (by kernel_rfl) (me rfl (fun _ v Φx D w1 hq hw => Kn.of Kf.nil (ai2 0 1 rfl rfl) hw) (e_appF RTExpr.lasts RTExpr.one RTExpr.flat Sl_141 Ei_191 rfl rfl rfl rfl rfl (js := [3]) (Rr := [ob v15, [pb0], ob v11]) rfl h1 h15.rsl hx10) rfl (fun v16 Φ_16 D6 q15 => ?_))
  obtain ⟨⟨ap10, fr15⟩, h16⟩ := q15
  replace ph0_0 := ph0_0.frame RI.lasts fr15 (ap10.o pa0_0)
  replace h14 := fr15 _ _ ((ap10.r (i := 1) rfl) _ (by simp)) h14
  refine mq 12 rfl (by kernel_rfl) (kn Kf.nil (ai2 0 1 rfl rfl)) (q_fieldAddr Fld_143_2 rfl) rfl ?_
  refine WM.one 13 (by kernel_rfl) (ms rfl (fun hc => by cases hc) (s_store (i := 0) (vs := [v16]) (C' := [.int .i64 x1.1.Kind, .string x1.1.Name, v16, .int .i64 x1.1.N, .string x1.1.Undo]) (O' := [(b_2, .cells #[.int .i64 x1.1.Kind, .string x1.1.Name, v16, .int .i64 x1.1.N, .string x1.1.Undo] 143 (0, 0)), (b_1, .cells #[.int .i64 0, .string (⟨#[]⟩ : ByteArray), .slice none 0 0, .int .i64 0, .string (⟨#[]⟩ : ByteArray)] 143 (0, 0))]) Sz_141 rfl rfl rfl (one_cells h16.one) rfl rfl ⟨h16.one, trivial⟩ rfl rfl) rfl ?_)
  refine WM.nil (by kernel_rfl) ?_
  exact wto (K (Φ_16, x10, v16, x9.2.i, x9.2.h, x1.1.Kind, x1.1.Name, x1.1.N, x1.1.Undo) ⟨h, h16, h14, ph0_0⟩) ⟨rfl, rfl, trivial⟩ (fun w1 hw => (hw.sel (js := [2, 0]) rfl).selO (js := [0, 0]) rfl)
 refine WT.skip ?_
 exact wto (K (Φ_2, x1.1.Args, v2, x2.2.i, x2.2.h, x1.1.Kind, x1.1.Name, x1.1.N, x1.1.Undo) ⟨h, h1, h3, ph0_0⟩) ⟨rfl, rfl, trivial⟩ (fun w1 hw => (hw.sel (js := [0, 0]) rfl).selO (js := [0, 0]) rfl)
theorem m_s_l9Bend_ok {Φ : Hp} {w : World} (hΦ : In Φ w) (N : Nat) (p0 : Tl1Cur) (p1 : TRule) {pv0_0 pv1_0 pv1_1 pv1_2 : Value} {pG0_0 pG1_0 pG1_1 pG1_2 : List Nat} {pb0 : Nat} (ph0_0 : RSl (RI .u8) 1 Φ pG0_0 pv0_0 p0.b) (pp0 : Φ pb0 = some (.cells #[pv0_0, .int .i64 p0.i, .int .i64 p0.h] 112 (0, 0))) (ph1_0 : RSl RTPat 3 Φ pG1_0 pv1_0 p1.Pats) (ph1_1 : RSl RTCond 11 Φ pG1_1 pv1_1 p1.Conds) (ph1_2 : RSl RTAct 5 Φ pG1_2 pv1_2 p1.Acts) (pd0_0 : Dj pG0_0 [[pb0]].flatten) (pd1_0 : Dj pG1_0 [[pb0]].flatten) (pd1_1 : Dj pG1_1 [[pb0]].flatten) (pd1_2 : Dj pG1_2 [[pb0]].flatten) (hB : [[pb0]].flatten.Nodup) (hlt : ∀ k ∈ [[pb0]].flatten, k < w.heap.size) {r : TRule × Tl1Cur} (h : m_s_l9Bend N p0 p1 = some r) :
  Calls Tryz.prog 76 [.pointer (some ⟨pb0, 0, none⟩), .agg [.string p1.Name, .int .i64 p1.Sal, pv1_0, pv1_1, pv1_2].toArray].toArray w (PostG Φ w [[pb0]].flatten (fun Φ' Fs v => ∃ (sr_0_0 : Value) (Dr_0_0 : List Nat) (sr_0_1 : Value) (Gr_0_1 : List Nat) (sr_0_2 : Value) (Gr_0_2 : List Nat) (X : List Nat), v = .agg [.string r.1.Name, .int .i64 r.1.Sal, sr_0_0, sr_0_1, sr_0_2].toArray ∧ Fs = [ob sr_0_0, [pb0], X] ∧ OSl RTPat 171 3 Φ' Dr_0_0 sr_0_0 r.1.Pats ∧ (∀ k ∈ Dr_0_0, k ∈ (X ++ pG1_0)) ∧ RSl RTCond 11 Φ' Gr_0_1 sr_0_1 r.1.Conds ∧ (∀ k ∈ Gr_0_1, k ∈ (X ++ pG1_1)) ∧ RSl RTAct 5 Φ' Gr_0_2 sr_0_2 r.1.Acts ∧ (∀ k ∈ Gr_0_2, k ∈ (X ++ pG1_2)) ∧ r.2.b = p0.b ∧ Φ' pb0 = some (.cells #[pv0_0, .int .i64 r.2.i, .int .i64 r.2.h] 112 (0, 0)))) := by
 refine enter Tryz.func76 rfl Tryz.ntmps76 rfl (St.start hΦ [[pb0]] hB hlt) ?_
 have pa0_0 := Old.mk hΦ ph0_0.kn pd0_0
 have pa1_0 := Old.mk hΦ ph1_0.kn pd1_0
 have pa1_1 := Old.mk hΦ ph1_1.kn pd1_1
 have pa1_2 := Old.mk hΦ ph1_2.kn pd1_2
 revert pa0_0 pa1_0 pa1_1 pa1_2
 generalize hb0 : (⟨w, [[pb0]].flatten, Φ⟩ : Base) = w0
 intro pa0_0 pa1_0 pa1_1 pa1_2
 unfold m_s_l9Bend at h
 refine sr ?_
 refine ln (nb rfl) rfl (fun b_1 => ?_)
 refine ln (nz Zr_40) rfl (fun b_2 => ?_)
 refine en <| sr ?_
 have rc1 : RC OTPat 3 Φ ([] : List (List Nat)) [] ([] : List TPat) := RC.nil _ _ _
 refine le' (e_lit (vs := []) (C := #[]) OTPat.lasts Sl_36 Zr_171 rfl rfl rfl rfl (fill_made MC_171_0 (fill_nil)) rfl rc1 rfl (by simpa using Kw.nil)) rfl (fun v1 Φ_1 D1 q1 => ?_)
 obtain ⟨fr1, h1⟩ := q1
 replace h1 : OSl OTPat 171 3 Φ_1 [] v1 ([] : List TPat) := by simpa [List.append_assoc] using h1
 replace ph0_0 := ph0_0.frame RI.lasts fr1 (Dj.empty _)
 replace ph1_0 := ph1_0.frame RTPat.lasts fr1 (Dj.empty _)
 replace ph1_1 := ph1_1.frame RTCond.lasts fr1 (Dj.empty _)
 replace ph1_2 := ph1_2.frame RTAct.lasts fr1 (Dj.empty _)
 replace pp0 := fr1 _ _ (by simp) pp0
 refine WL.conv (S' := St w0 Φ_1 [(b_2, .cells #[.string (⟨#[]⟩ : ByteArray), .int .i64 0, .slice none 0 0, .slice none 0 0, .slice none 0 0] 40 (0, 0)), (b_1, .cells #[.string p1.Name, .int .i64 p1.Sal, pv1_0, pv1_1, pv1_2] 40 (0, 0))] [[], ob v1, [pb0]]) (fun w1 hw => hw.addNil) <| lf Fld_40_2 rfl rfl rfl <| lo T1_36 1 rfl ?_
 obtain ⟨x1, hx1, h⟩ := bs h
 replace h1 := h1.gives OTPat.gives
 refine le' (e_appS RTPat.lasts RTPat.knows RTPat.one Sl_36 Ei_171 rfl rfl rfl rfl rfl (js := [1]) (Rr := [[], [pb0]]) rfl h1 ph1_0 (fun ap => (Dj.nil _)) (fun ap => (ap.o pa1_0)) hx1) rfl (fun v2 Φ_2 D2 q2 => ?_)
 obtain ⟨⟨ap1, fr2⟩, hin1, h2⟩ := q2
 replace ph0_0 := ph0_0.frame RI.lasts fr2 (ap1.o pa0_0)
 replace ph1_0 := ph1_0.frame RTPat.lasts fr2 (ap1.o pa1_0)
 replace ph1_1 := ph1_1.frame RTCond.lasts fr2 (ap1.o pa1_1)
 replace ph1_2 := ph1_2.frame RTAct.lasts fr2 (ap1.o pa1_2)
 replace pp0 := fr2 _ _ ((ap1.r (i := 1) rfl) _ (by simp)) pp0
 refine lf Fld_40_2 rfl rfl rfl <| so1 1 Sz_36 rfl h2.one ?_
 refine en <| sq <| sr <| la rfl ?_
 obtain ⟨x2, hx2, h⟩ := bs h
 refine lc (k_call (js := [2]) (R := [ob v2, []]) Fun_73 rfl rfl (fun w1 hw ap hl => m_s_l1Below_ok hw.fro N p0 10 ph0_0 pp0 (ap.o pa0_0) ap.nd hl hx2)) rfl (fun v3 Φ_3 F1 q3 => ?_)
 obtain ⟨ap2, fr3, rfl, rfl, e1, h3⟩ := q3
 replace ph0_0 := ph0_0.frame RI.lasts fr3 (ap2.o pa0_0)
 replace ph1_1 := ph1_1.frame RTCond.lasts fr3 (ap2.o pa1_1)
 replace ph1_2 := ph1_2.frame RTAct.lasts fr3 (ap2.o pa1_2)
 replace h2 := h2.frame RTPat.lasts fr3 (ap2.r (i := 0) rfl) (Dj.sub (ap2.o pa1_0) (fun k hk => (by simpa using hin1 k hk : k ∈ pG1_0)))
 refine en <| blk <| sr <| la rfl <| la rfl <| en <| WT.conv (S' := St w0 Φ_3 [(b_2, .cells #[.string (⟨#[]⟩ : ByteArray), .int .i64 0, .slice none 0 0, .slice none 0 0, .slice none 0 0] 40 (0, 0)), (b_1, .cells #[.string p1.Name, .int .i64 p1.Sal, v2, pv1_1, pv1_2] 40 (0, 0))] ([] :: [[pb0], ob v2, []])) (fun w1 hw => hw.addNil) ?_
 refine cut (σ := Hp × List Nat × (List TPat) × Value × List Nat × Int × Int × ByteArray × Int × (List TCond) × Value × List Nat × (List TAct) × Value × List Nat) (fun s => [(3, .pointer (some ⟨b_1, 0, none⟩)), (4, .pointer (some ⟨b_2, 0, none⟩))]) (fun s => St w0 s.1 [(b_2, .cells #[.string (⟨#[]⟩ : ByteArray), .int .i64 0, .slice none 0 0, .slice none 0 0, .slice none 0 0] 40 (0, 0)), (b_1, .cells #[.string s.2.2.2.2.2.2.2.1, .int .i64 s.2.2.2.2.2.2.2.2.1, s.2.2.2.1, s.2.2.2.2.2.2.2.2.2.2.1, s.2.2.2.2.2.2.2.2.2.2.2.2.2.1] 40 (0, 0))] [s.2.1, [pb0], ob s.2.2.2.1]) (fun s => m_s_l9Bend_j1 N p0 s.2.2.1 s.2.2.2.2.2.1 s.2.2.2.2.2.2.1 s.2.2.2.2.2.2.2.1 s.2.2.2.2.2.2.2.2.1 s.2.2.2.2.2.2.2.2.2.1 s.2.2.2.2.2.2.2.2.2.2.2.2.1 = some r ∧ (OSl RTPat 171 3 s.1 s.2.2.2.2.1 s.2.2.2.1 s.2.2.1) ∧ (∀ k ∈ s.2.2.2.2.1, k ∈ (pG1_0 ++ s.2.1)) ∧ (s.1 pb0 = some (.cells #[pv0_0, .int .i64 s.2.2.2.2.2.1, .int .i64 s.2.2.2.2.2.2.1] 112 (0, 0))) ∧ (RSl RTCond 11 s.1 s.2.2.2.2.2.2.2.2.2.2.2.1 s.2.2.2.2.2.2.2.2.2.2.1 s.2.2.2.2.2.2.2.2.2.1) ∧ (∀ k ∈ s.2.2.2.2.2.2.2.2.2.2.2.1, k ∈ (pG1_1 ++ s.2.1)) ∧ (RSl RTAct 5 s.1 s.2.2.2.2.2.2.2.2.2.2.2.2.2.2 s.2.2.2.2.2.2.2.2.2.2.2.2.2.1 s.2.2.2.2.2.2.2.2.2.2.2.2.1) ∧ (∀ k ∈ s.2.2.2.2.2.2.2.2.2.2.2.2.2.2, k ∈ (pG1_2 ++ s.2.1)) ∧ (RSl (RI .u8) 1 s.1 pG0_0 pv0_0 p0.b)) (fun s hm => ?_) (fun K => ?_)
 ·clear h
  obtain ⟨Φ_4, X1, s1, u1, D4, s2, s3, s4, s5, s6, u2, H1, s7, u3, H2⟩ := s
  obtain ⟨h, k1, i1, k2, k3, i2, k4, i3, ph0_0⟩ := hm
  dsimp only at h k1 i1 k2 k3 i2 k4 i3 ph0_0 ⊢
  unfold m_s_l9Bend_j1 at h
  refine ib <| sr <| ld5 Tn_40 1 rfl <| soN 0 Sz_40 rfl ⟨rfl, rfl, k1.one, k3.one, k4.one, trivial⟩ rfl ?_
  refine en ?_
  refine WT.ret Tryz.func76 (resOk.one (rv_cell Tn_40 rfl (fun w1 hw => hw.rgO (i := 0) rfl 0 5 [.string s4, .int .i64 s5, u1, u2, u3] rfl) rfl)) (fun w1 hw => ?_)
  subst hb0
  cases h
  replace hw := hw.merge (js := [0]) (F := [X1].flatten) rfl (SP.eq (by simp))
  refine postG_of_St (js := [2, 1, 0]) hw rfl ⟨u1, D4, u2, H1, u3, H2, [X1].flatten, rfl, rfl, k1, (fun k hk => ((List.mem_append.1 (i1 k hk)).elim (fun h => (List.mem_append.2 (.inr h))) (fun h => (List.mem_append.2 (.inl (List.mem_flatten.2 ⟨X1, by simp, h⟩)))))), k3, (fun k hk => ((List.mem_append.1 (i2 k hk)).elim (fun h => (List.mem_append.2 (.inr h))) (fun h => (List.mem_append.2 (.inl (List.mem_flatten.2 ⟨X1, by simp, h⟩)))))), k4, (fun k hk => ((List.mem_append.1 (i3 k hk)).elim (fun h => (List.mem_append.2 (.inr h))) (fun h => (List.mem_append.2 (.inl (List.mem_flatten.2 ⟨X1, by simp, h⟩)))))), rfl, k2⟩
 refine cdh rfl h (fun c1 h => ?_) (fun c1 h => ?_)
 ·refine rgn <| la rfl ?_
  have rc2 : RC RS 1 Φ_3 ([[], [], []] : List (List Nat)) [.string (⟨#[]⟩ : ByteArray), .string (⟨#[65]⟩ : ByteArray), .string (⟨#[120]⟩ : ByteArray)] ([(⟨#[]⟩ : ByteArray), (⟨#[65]⟩ : ByteArray), (⟨#[120]⟩ : ByteArray)] : List ByteArray) := RC.cons (c := [.string (⟨#[]⟩ : ByteArray)]) (cells := [.string (⟨#[65]⟩ : ByteArray), .string (⟨#[120]⟩ : ByteArray)]) ⟨rfl, rfl⟩ rfl (RC.cons (c := [.string (⟨#[65]⟩ : ByteArray)]) (cells := [.string (⟨#[120]⟩ : ByteArray)]) ⟨rfl, rfl⟩ rfl (RC.cons (c := [.string (⟨#[120]⟩ : ByteArray)]) (cells := []) ⟨rfl, rfl⟩ rfl (RC.nil _ _ _)))
  refine le' (e_lit (vs := [(0, .string (⟨#[]⟩ : ByteArray)), (1, .string (⟨#[65]⟩ : ByteArray)), (2, .string (⟨#[120]⟩ : ByteArray))]) (C := #[.string (⟨#[]⟩ : ByteArray), .string (⟨#[65]⟩ : ByteArray), .string (⟨#[120]⟩ : ByteArray)]) RS.lasts Sl_114 Zr_9 rfl rfl rfl rfl (fill_made MC_9_3 (fill_cons (C' := [.string (⟨#[]⟩ : ByteArray), .string ⟨#[]⟩, .string ⟨#[]⟩]) rfl rfl rfl rfl rfl (fill_cons (C' := [.string (⟨#[]⟩ : ByteArray), .string (⟨#[65]⟩ : ByteArray), .string ⟨#[]⟩]) rfl rfl rfl rfl rfl (fill_cons (C' := [.string (⟨#[]⟩ : ByteArray), .string (⟨#[65]⟩ : ByteArray), .string (⟨#[120]⟩ : ByteArray)]) rfl rfl rfl rfl rfl (fill_nil))))) rfl rc2 rfl (by simpa using Kw.nil)) rfl (fun v4 Φ_5 D5 q4 => ?_)
  obtain ⟨fr4, h4⟩ := q4
  replace h4 : OSl RS 9 1 Φ_5 [] v4 ([(⟨#[]⟩ : ByteArray), (⟨#[65]⟩ : ByteArray), (⟨#[120]⟩ : ByteArray)] : List ByteArray) := by simpa using h4
  replace ph1_1 := ph1_1.frame RTCond.lasts fr4 (Dj.empty _)
  replace ph1_2 := ph1_2.frame RTAct.lasts fr4 (Dj.empty _)
  replace ph0_0 := ph0_0.frame RI.lasts fr4 (Dj.empty _)
  replace h2 := h2.frame RTPat.lasts fr4 (Dj.empty _) (Dj.empty _)
  replace h3 := fr4 _ _ (by simp) h3
  obtain ⟨x3, hx3, h⟩ := bs h
  refine lc (k_call (js := [2]) (R := [ob v4, [], ob v2, []]) Fun_72 rfl rfl (fun w1 hw ap hl => m_s_l1Str_ok hw.fro N (⟨p0.b, x2.2.i, x2.2.h⟩ : Tl1Cur) ([(⟨#[]⟩ : ByteArray), (⟨#[65]⟩ : ByteArray), (⟨#[120]⟩ : ByteArray)] : List ByteArray) ph0_0 h3 h4.rsl (ap.o pa0_0) (Dj.app (ap.r (i := 0) rfl) (Dj.nil _)) ap.nd hl hx3)) rfl (fun v5 Φ_6 F2 q5 => ?_)
  obtain ⟨ap3, fr5, rfl, rfl, e2, h5⟩ := q5
  replace ph1_1 := ph1_1.frame RTCond.lasts fr5 (ap3.o pa1_1)
  replace ph1_2 := ph1_2.frame RTAct.lasts fr5 (ap3.o pa1_2)
  replace ph0_0 := ph0_0.frame RI.lasts fr5 (ap3.o pa0_0)
  replace h2 := h2.frame RTPat.lasts fr5 (ap3.r (i := 2) rfl) (Dj.sub (ap3.o pa1_0) (fun k hk => (by simpa using hin1 k hk : k ∈ pG1_0)))
  refine lf Fld_40_0 rfl rfl rfl <| so1 1 Sz_9 rfl rfl ?_
  refine en ?_
  exact wto (K (Φ_6, [], x1, v2, D2, x3.2.i, x3.2.h, x3.1, p1.Sal, p1.Conds, pv1_1, pG1_1, p1.Acts, pv1_2, pG1_2) ⟨h, h2, (fun k hk => (List.mem_append.2 (.inl ((fun k hk => (by simpa using hin1 k hk : k ∈ pG1_0)) k hk)))), h5, ph1_1, (fun k hk => (List.mem_append.2 (.inl hk))), ph1_2, (fun k hk => (List.mem_append.2 (.inl hk))), ph0_0⟩) ⟨rfl, rfl, trivial⟩ (fun w1 hw => (hw.sel (js := [2, 0, 1]) rfl).selO (js := [0, 0]) rfl)
 refine sr <| la rfl <| la rfl <| en ?_
 refine cdh rfl h (fun c2 h => ?_) (fun c2 h => ?_)
 ·refine rgn <| la rfl ?_
  have rc3 : RC (RI .i64) 1 Φ_3 ([[], [], []] : List (List Nat)) [.int .i64 (-101), .int .i64 101, .int .i64 100] ([(-101), 101, 100] : List Int) := RC.cons (c := [.int .i64 (-101)]) (cells := [.int .i64 101, .int .i64 100]) ⟨rfl, rfl⟩ rfl (RC.cons (c := [.int .i64 101]) (cells := [.int .i64 100]) ⟨rfl, rfl⟩ rfl (RC.cons (c := [.int .i64 100]) (cells := []) ⟨rfl, rfl⟩ rfl (RC.nil _ _ _)))
  refine le' (e_lit (vs := [(0, .int .i64 (-101)), (1, .int .i64 101), (2, .int .i64 100)]) (C := #[.int .i64 (-101), .int .i64 101, .int .i64 100]) RI.lasts Sl_41 Zr_3 rfl rfl rfl rfl (fill_made MC_3_3 (fill_cons (C' := [.int .i64 (-101), .int .i64 0, .int .i64 0]) rfl rfl rfl rfl rfl (fill_cons (C' := [.int .i64 (-101), .int .i64 101, .int .i64 0]) rfl rfl rfl rfl rfl (fill_cons (C' := [.int .i64 (-101), .int .i64 101, .int .i64 100]) rfl rfl rfl rfl rfl (fill_nil))))) rfl rc3 rfl (by simpa using Kw.nil)) rfl (fun v6 Φ_7 D6 q6 => ?_)
  obtain ⟨fr6, h6⟩ := q6
  replace h6 : OSl (RI .i64) 3 1 Φ_7 [] v6 ([(-101), 101, 100] : List Int) := by simpa using h6
  replace ph1_1 := ph1_1.frame RTCond.lasts fr6 (Dj.empty _)
  replace ph1_2 := ph1_2.frame RTAct.lasts fr6 (Dj.empty _)
  replace ph0_0 := ph0_0.frame RI.lasts fr6 (Dj.empty _)
  replace h2 := h2.frame RTPat.lasts fr6 (Dj.empty _) (Dj.empty _)
  replace h3 := fr6 _ _ (by simp) h3
  obtain ⟨x4, hx4, h⟩ := bs h
  refine lc (k_call (js := [2]) (R := [ob v6, [], ob v2, []]) Fun_121 rfl rfl (fun w1 hw ap hl => m_s_l1Int_ok hw.fro N (⟨p0.b, x2.2.i, x2.2.h⟩ : Tl1Cur) ([(-101), 101, 100] : List Int) ph0_0 h3 h6.rsl (ap.o pa0_0) (Dj.app (ap.r (i := 0) rfl) (Dj.nil _)) ap.nd hl hx4)) rfl (fun v7 Φ_8 F3 q7 => ?_)
  obtain ⟨ap4, fr7, rfl, rfl, e3, h7⟩ := q7
  replace ph1_1 := ph1_1.frame RTCond.lasts fr7 (ap4.o pa1_1)
  replace ph1_2 := ph1_2.frame RTAct.lasts fr7 (ap4.o pa1_2)
  replace ph0_0 := ph0_0.frame RI.lasts fr7 (ap4.o pa0_0)
  replace h2 := h2.frame RTPat.lasts fr7 (ap4.r (i := 2) rfl) (Dj.sub (ap4.o pa1_0) (fun k hk => (by simpa using hin1 k hk : k ∈ pG1_0)))
  refine lf Fld_40_1 rfl rfl rfl <| so1 1 Sz_3 rfl rfl ?_
  refine en ?_
  exact wto (K (Φ_8, [], x1, v2, D2, x4.2.i, x4.2.h, p1.Name, x4.1, p1.Conds, pv1_1, pG1_1, p1.Acts, pv1_2, pG1_2) ⟨h, h2, (fun k hk => (List.mem_append.2 (.inl ((fun k hk => (by simpa using hin1 k hk : k ∈ pG1_0)) k hk)))), h7, ph1_1, (fun k hk => (List.mem_append.2 (.inl hk))), ph1_2, (fun k hk => (List.mem_append.2 (.inl hk))), ph0_0⟩) ⟨rfl, rfl, trivial⟩ (fun w1 hw => (hw.sel (js := [2, 0, 1]) rfl).selO (js := [0, 0]) rfl)
 refine sr <| la rfl <| la rfl <| en ?_
 refine cdh rfl h (fun c3 h => ?_) (fun c3 h => ?_)
 ·refine WT.mix (Kn Φ_3 [] [(b_2, .cells #[.string (⟨#[]⟩ : ByteArray), .int .i64 0, .slice none 0 0, .slice none 0 0, .slice none 0 0] 40 (0, 0)), (b_1, .cells #[.string p1.Name, .int .i64 p1.Sal, v2, pv1_1, pv1_2] 40 (0, 0))]) (fun i => match i with | 7 => false | _ => true) mixed (fun _ h => h.drew) <| mq 0 rfl (by kernel_rfl) (kn Kf.nil (ai2 0 1 rfl rfl)) (q_fieldAddr Fld_40_2 rfl) rfl <| mq 1 rfl (by kernel_rfl) (kn Kf.nil (ai2 0 1 rfl rfl)) (q_load1 T1_36 rfl (fun w1 hw => hw.rgO (i := 1) rfl 2 1 [v2] rfl)) rfl ?_
  refine ma 2 rfl (by kernel_rfl) (kn Kf.nil (ai2 0 1 rfl rfl)) rfl ?_
  obtain ⟨x5, hx5, h⟩ := bs h
  refine WM.one 3 (by kernel_rfl) (mc rfl (fun _ v Φx D w1 hq hw => Kn.of Kf.nil (ai2 0 1 rfl rfl) hw) (k_call (js := [1]) (R := [[], ob v2, []]) Fun_126 rfl rfl (fun w1 hw ap hl => m_s_l6Any_ok hw.fro N (⟨p0.b, x2.2.i, x2.2.h⟩ : Tl1Cur) ph0_0 h3 (ap.o pa0_0) ap.nd hl hx5)) rfl (fun v8 Φ_9 F4 q8 => ?_))
  obtain ⟨ap5, fr8, v9, rfl, rfl, h8, e4, h9⟩ := q8
  replace ph1_1 := ph1_1.frame RTCond.lasts fr8 (ap5.o pa1_1)
  replace ph1_2 := ph1_2.frame RTAct.lasts fr8 (ap5.o pa1_2)
  replace ph0_0 := ph0_0.frame RI.lasts fr8 (ap5.o pa0_0)
  replace h2 := h2.frame RTPat.lasts fr8 (ap5.r (i := 1) rfl) (Dj.sub (ap5.o pa1_0) (fun k hk => (by simpa using hin1 k hk : k ∈ pG1_0)))
  have rc4 : RC OTPat 3 Φ_9 ([(ob v9 ++ [])] : List (List Nat)) [.string x5.1.Kind, v9, .bool x5.1.Not] ([x5.1] : List TPat) := RC.cons (c := [.string x5.1.Kind, v9, .bool x5.1.Not]) (cells := []) ⟨v9, rfl, rfl, h8⟩ rfl (RC.nil _ _ _)
  refine WM.one 4 (by kernel_rfl) (me rfl (fun _ v Φx D w1 hq hw => Kn.of Kf.nil (ai2 0 1 rfl rfl) hw) (e_lit (vs := [(0, .agg [.string x5.1.Kind, v9, .bool x5.1.Not].toArray)]) (C := #[.string x5.1.Kind, v9, .bool x5.1.Not]) OTPat.lasts Sl_36 Zr_171 rfl rfl rfl rfl (fill_made MC_171_1 (fill_cons (C' := [.string x5.1.Kind, v9, .bool x5.1.Not]) rfl rfl rfl rfl rfl (fill_nil))) rfl rc4 rfl (RC.kn OTPat.knows rc4)) rfl (fun v10 Φ_10 D7 q9 => ?_))
  obtain ⟨fr9, h10⟩ := q9
  replace h10 : OSl OTPat 171 3 Φ_10 ((ob v9 ++ [])) v10 ([x5.1] : List TPat) := by simpa [List.append_assoc] using h10
  replace ph1_1 := ph1_1.frame RTCond.lasts fr9 (Dj.empty _)
  replace ph1_2 := ph1_2.frame RTAct.lasts fr9 (Dj.empty _)
  replace ph0_0 := ph0_0.frame RI.lasts fr9 (Dj.empty _)
  replace h2 := h2.frame RTPat.lasts fr9 (Dj.empty _) (Dj.empty _)
  replace h9 := fr9 _ _ (by simp) h9
  refine WM.conv (S' := St w0 Φ_10 [(b_2, .cells #[.string (⟨#[]⟩ : ByteArray), .int .i64 0, .slice none 0 0, .slice none 0 0, .slice none 0 0] 40 (0, 0)), (b_1, .cells #[.string p1.Name, .int .i64 p1.Sal, v2, pv1_1, pv1_2] 40 (0, 0))] [((ob v9 ++ [])), ob v10, [pb0], [], ob v2, []]) (fun w1 hw => hw.merge (js := [1]) rfl (SP.eq (by simp [List.append_assoc, ob_nil]))) ?_
  obtain ⟨x6, hx6, h⟩ := bs h
  refine WM.one 5 (by kernel_rfl) (me rfl (fun _ v Φx D w1 hq hw => Kn.of Kf.nil (ai2 0 1 rfl rfl) hw) (e_appO RTPat.lasts RTPat.one Sl_36 Ei_171 rfl rfl rfl rfl rfl (js := [4]) (Rr := [((ob v9 ++ [])), ob v10, [pb0], [], []]) rfl h2 (h10.gives OTPat.gives) (fun ap => (Dj.sub (ap.o pa1_0) (fun k hk => (by simpa using hin1 k hk : k ∈ pG1_0)))) (fun ap => (ap.r (i := 0) rfl)) hx6) rfl (fun v11 Φ_11 D8 q10 => ?_))
  obtain ⟨⟨ap6, fr10⟩, h11⟩ := q10
  replace ph1_1 := ph1_1.frame RTCond.lasts fr10 (ap6.o pa1_1)
  replace ph1_2 := ph1_2.frame RTAct.lasts fr10 (ap6.o pa1_2)
  replace ph0_0 := ph0_0.frame RI.lasts fr10 (ap6.o pa0_0)
  replace h9 := fr10 _ _ ((ap6.r (i := 2) rfl) _ (by simp)) h9
  refine mq 6 rfl (by kernel_rfl) (kn Kf.nil (ai2 0 1 rfl rfl)) (q_fieldAddr Fld_40_2 rfl) rfl ?_
  refine WM.one 7 (by kernel_rfl) (ms rfl (fun hc => by cases hc) (s_store (i := 1) (vs := [v11]) (C' := [.string p1.Name, .int .i64 p1.Sal, v11, pv1_1, pv1_2]) (O' := [(b_2, .cells #[.string (⟨#[]⟩ : ByteArray), .int .i64 0, .slice none 0 0, .slice none 0 0, .slice none 0 0] 40 (0, 0)), (b_1, .cells #[.string p1.Name, .int .i64 p1.Sal, v11, pv1_1, pv1_2] 40 (0, 0))]) Sz_36 rfl rfl rfl (one_cells h11.one) rfl rfl ⟨h11.one, trivial⟩ rfl rfl) rfl ?_)
  refine WM.nil (by kernel_rfl) <| WT.conv (S' := St w0 Φ_11 [(b_2, .cells #[.string (⟨#[]⟩ : ByteArray), .int .i64 0, .slice none 0 0, .slice none 0 0, .slice none 0 0] 40 (0, 0)), (b_1, .cells #[.string p1.Name, .int .i64 p1.Sal, v11, pv1_1, pv1_2] 40 (0, 0))] [([] ++ (((ob v9 ++ [])))), ob v11, ob v10, [pb0], []]) (fun w1 hw => hw.merge (js := [4, 1]) rfl (SP.eq (by simp [List.append_assoc]))) ?_
  exact wto (K (Φ_11, ([] ++ (((ob v9 ++ [])))), x6, v11, (D2 ++ ((ob v9 ++ []))), x5.2.i, x5.2.h, p1.Name, p1.Sal, p1.Conds, pv1_1, pG1_1, p1.Acts, pv1_2, pG1_2) ⟨h, h11, (fun k hk => ((List.mem_append.1 hk).elim (fun h => (List.mem_append.2 (.inl ((fun k hk => (by simpa using hin1 k hk : k ∈ pG1_0)) k h)))) (fun h => (List.mem_append.2 (.inr ((fun k hk => (List.mem_append.2 (.inr hk))) k h)))))), h9, ph1_1, (fun k hk => (List.mem_append.2 (.inl hk))), ph1_2, (fun k hk => (List.mem_append.2 (.inl hk))), ph0_0⟩) ⟨rfl, rfl, trivial⟩ (fun w1 hw => (hw.sel (js := [0, 2, 0]) rfl).selO (js := [0, 0]) rfl)
 refine sr <| la rfl <| la rfl <| en ?_
 refine cdh rfl h (fun c4 h => ?_) (fun c4 h => ?_)
 ·refine rgn ?_
  refine le' (e_lit0 RTCond.lasts Sl_37 Zr_139 rfl rfl) rfl (fun v12 Φ_12 D9 q11 => ?_)
  obtain ⟨fr11, h12⟩ := q11
  replace ph0_0 := ph0_0.frame RI.lasts fr11 (Dj.empty _)
  replace ph1_1 := ph1_1.frame RTCond.lasts fr11 (Dj.empty _)
  replace ph1_2 := ph1_2.frame RTAct.lasts fr11 (Dj.empty _)
  replace h2 := h2.frame RTPat.lasts fr11 (Dj.empty _) (Dj.empty _)
  replace h3 := fr11 _ _ (by simp) h3
  refine lf Fld_40_3 rfl rfl rfl <| lo T1_37 1 rfl ?_
  obtain ⟨x7, hx7, h⟩ := bs h
  refine le' (e_appF RTCond.lasts RTCond.one RTCond.flat Sl_37 Ei_139 rfl rfl rfl rfl rfl (js := [0]) (Rr := [[], [pb0], ob v2, []]) rfl h12 ph1_1 hx7) rfl (fun v13 Φ_13 D10 q12 => ?_)
  obtain ⟨⟨ap7, fr12⟩, h13⟩ := q12
  replace ph0_0 := ph0_0.frame RI.lasts fr12 (ap7.o pa0_0)
  replace ph1_1 := ph1_1.frame RTCond.lasts fr12 (ap7.o pa1_1)
  replace ph1_2 := ph1_2.frame RTAct.lasts fr12 (ap7.o pa1_2)
  replace h2 := h2.frame RTPat.lasts fr12 (ap7.r (i := 2) rfl) (Dj.sub (ap7.o pa1_0) (fun k hk => (by simpa using hin1 k hk : k ∈ pG1_0)))
  replace h3 := fr12 _ _ ((ap7.r (i := 1) rfl) _ (by simp)) h3
  refine la rfl ?_
  obtain ⟨x8, hx8, h⟩ := bs h
  refine lc (k_call (js := [2]) (R := [ob v13, [], ob v2, []]) Fun_127 rfl rfl (fun w1 hw ap hl => m_s_l7Any_ok hw.fro N (⟨p0.b, x2.2.i, x2.2.h⟩ : Tl1Cur) ph0_0 h3 (ap.o pa0_0) ap.nd hl hx8)) rfl (fun v14 Φ_14 F5 q13 => ?_)
  obtain ⟨ap8, fr13, rfl, rfl, e5, h14⟩ := q13
  replace ph1_1 := ph1_1.frame RTCond.lasts fr13 (ap8.o pa1_1)
  replace ph1_2 := ph1_2.frame RTAct.lasts fr13 (ap8.o pa1_2)
  replace ph0_0 := ph0_0.frame RI.lasts fr13 (ap8.o pa0_0)
  replace h2 := h2.frame RTPat.lasts fr13 (ap8.r (i := 2) rfl) (Dj.sub (ap8.o pa1_0) (fun k hk => (by simpa using hin1 k hk : k ∈ pG1_0)))
  replace h13 := h13.frame RTCond.lasts fr13 (ap8.r (i := 0) rfl) (Dj.nil _)
  have rc6 : RC RTCond 11 Φ_14 ([[]] : List (List Nat)) [.int .i64 x8.1.Op, .int .i64 x8.1.L.K, .string x8.1.L.S, .int .i64 x8.1.L.V.K, .int .i64 x8.1.L.V.N, .string x8.1.L.V.S, .int .i64 x8.1.R.K, .string x8.1.R.S, .int .i64 x8.1.R.V.K, .int .i64 x8.1.R.V.N, .string x8.1.R.V.S] ([x8.1] : List TCond) := RC.cons (c := [.int .i64 x8.1.Op, .int .i64 x8.1.L.K, .string x8.1.L.S, .int .i64 x8.1.L.V.K, .int .i64 x8.1.L.V.N, .string x8.1.L.V.S, .int .i64 x8.1.R.K, .string x8.1.R.S, .int .i64 x8.1.R.V.K, .int .i64 x8.1.R.V.N, .string x8.1.R.V.S]) (cells := []) ⟨rfl, rfl⟩ rfl (RC.nil _ _ _)
  refine le' (e_lit (vs := [(0, .agg [.int .i64 x8.1.Op, .int .i64 x8.1.L.K, .string x8.1.L.S, .int .i64 x8.1.L.V.K, .int .i64 x8.1.L.V.N, .string x8.1.L.V.S, .int .i64 x8.1.R.K, .string x8.1.R.S, .int .i64 x8.1.R.V.K, .int .i64 x8.1.R.V.N, .string x8.1.R.V.S].toArray)]) (C := #[.int .i64 x8.1.Op, .int .i64 x8.1.L.K, .string x8.1.L.S, .int .i64 x8.1.L.V.K, .int .i64 x8.1.L.V.N, .string x8.1.L.V.S, .int .i64 x8.1.R.K, .string x8.1.R.S, .int .i64 x8.1.R.V.K, .int .i64 x8.1.R.V.N, .string x8.1.R.V.S]) RTCond.lasts Sl_37 Zr_139 rfl rfl rfl rfl (fill_made MC_139_1 (fill_cons (C' := [.int .i64 x8.1.Op, .int .i64 x8.1.L.K, .string x8.1.L.S, .int .i64 x8.1.L.V.K, .int .i64 x8.1.L.V.N, .string x8.1.L.V.S, .int .i64 x8.1.R.K, .string x8.1.R.S, .int .i64 x8.1.R.V.K, .int .i64 x8.1.R.V.N, .string x8.1.R.V.S]) rfl rfl rfl rfl rfl (fill_nil))) rfl rc6 rfl (by simpa using Kw.nil)) rfl (fun v15 Φ_15 D11 q14 => ?_)
  obtain ⟨fr14, h15⟩ := q14
  replace h15 : OSl RTCond 139 11 Φ_15 [] v15 ([x8.1] : List TCond) := by simpa using h15
  replace ph1_1 := ph1_1.frame RTCond.lasts fr14 (Dj.empty _)
  replace ph1_2 := ph1_2.frame RTAct.lasts fr14 (Dj.empty _)
  replace ph0_0 := ph0_0.frame RI.lasts fr14 (Dj.empty _)
  replace h2 := h2.frame RTPat.lasts fr14 (Dj.empty _) (Dj.empty _)
  replace h13 := h13.frame RTCond.lasts fr14 (Dj.empty _) (Dj.empty _)
  replace h14 := fr14 _ _ (by simp) h14
  obtain ⟨x9, hx9, h⟩ := bs h
  refine le' (e_appF RTCond.lasts RTCond.one RTCond.flat Sl_37 Ei_139 rfl rfl rfl rfl rfl (js := [2]) (Rr := [ob v15, [pb0], [], ob v2, []]) rfl h13 h15.rsl hx9) rfl (fun v16 Φ_16 D12 q15 => ?_)
  obtain ⟨⟨ap9, fr15⟩, h16⟩ := q15
  replace ph1_1 := ph1_1.frame RTCond.lasts fr15 (ap9.o pa1_1)
  replace ph1_2 := ph1_2.frame RTAct.lasts fr15 (ap9.o pa1_2)
  replace ph0_0 := ph0_0.frame RI.lasts fr15 (ap9.o pa0_0)
  replace h2 := h2.frame RTPat.lasts fr15 (ap9.r (i := 3) rfl) (Dj.sub (ap9.o pa1_0) (fun k hk => (by simpa using hin1 k hk : k ∈ pG1_0)))
  replace h14 := fr15 _ _ ((ap9.r (i := 1) rfl) _ (by simp)) h14
  refine lf Fld_40_3 rfl rfl rfl <| so1 1 Sz_37 rfl h16.one ?_
  refine en ?_
  have h17 := h16.rsl
  refine WT.conv (S' := St w0 Φ_16 [(b_2, .cells #[.string (⟨#[]⟩ : ByteArray), .int .i64 0, .slice none 0 0, .slice none 0 0, .slice none 0 0] 40 (0, 0)), (b_1, .cells #[.string p1.Name, .int .i64 p1.Sal, v2, v16, pv1_2] 40 (0, 0))] [([] ++ (ob v16)), ob v15, [pb0], ob v2, []]) (fun w1 hw => hw.merge (js := [3, 0]) rfl (SP.eq (by simp [List.append_assoc]))) ?_
  exact wto (K (Φ_16, ([] ++ (ob v16)), x1, v2, D2, x8.2.i, x8.2.h, p1.Name, p1.Sal, x9, v16, (ob v16 ++ []), p1.Acts, pv1_2, pG1_2) ⟨h, h2, (fun k hk => (List.mem_append.2 (.inl ((fun k hk => (by simpa using hin1 k hk : k ∈ pG1_0)) k hk)))), h14, h17, (fun k hk => (List.mem_append.2 (.inr ((fun k hk => (List.mem_append.2 (.inr hk))) k (apnil k hk))))), ph1_2, (fun k hk => (List.mem_append.2 (.inl hk))), ph0_0⟩) ⟨rfl, rfl, trivial⟩ (fun w1 hw => (hw.sel (js := [0, 1, 1]) rfl).selO (js := [0, 0]) rfl)
 refine sr <| la rfl <| la rfl <| en ?_
 refine cdh rfl h (fun c5 h => ?_) (fun c5 h => ?_)
 ·refine rgn ?_
  have rc7 : RC OTAct 5 Φ_3 ([] : List (List Nat)) [] ([] : List TAct) := RC.nil _ _ _
  refine le' (e_lit (vs := []) (C := #[]) OTAct.lasts Sl_38 Zr_143 rfl rfl rfl rfl (fill_made MC_143_0 (fill_nil)) rfl rc7 rfl (by simpa using Kw.nil)) rfl (fun v17 Φ_17 D13 q16 => ?_)
  obtain ⟨fr16, h18⟩ := q16
  replace h18 : OSl OTAct 143 5 Φ_17 [] v17 ([] : List TAct) := by simpa [List.append_assoc] using h18
  replace ph0_0 := ph0_0.frame RI.lasts fr16 (Dj.empty _)
  replace ph1_1 := ph1_1.frame RTCond.lasts fr16 (Dj.empty _)
  replace ph1_2 := ph1_2.frame RTAct.lasts fr16 (Dj.empty _)
  replace h2 := h2.frame RTPat.lasts fr16 (Dj.empty _) (Dj.empty _)
  replace h3 := fr16 _ _ (by simp) h3
  refine WL.conv (S' := St w0 Φ_17 [(b_2, .cells #[.string (⟨#[]⟩ : ByteArray), .int .i64 0, .slice none 0 0, .slice none 0 0, .slice none 0 0] 40 (0, 0)), (b_1, .cells #[.string p1.Name, .int .i64 p1.Sal, v2, pv1_1, pv1_2] 40 (0, 0))] [[], ob v17, [], [pb0], ob v2, []]) (fun w1 hw => hw.addNil) <| lf Fld_40_4 rfl rfl rfl <| lo T1_38 1 rfl ?_
  obtain ⟨x10, hx10, h⟩ := bs h
  replace h18 := h18.gives OTAct.gives
  refine le' (e_appS RTAct.lasts RTAct.knows RTAct.one Sl_38 Ei_143 rfl rfl rfl rfl rfl (js := [1]) (Rr := [[], [], [pb0], ob v2, []]) rfl h18 ph1_2 (fun ap => (Dj.nil _)) (fun ap => (ap.o pa1_2)) hx10) rfl (fun v18 Φ_18 D14 q17 => ?_)
  obtain ⟨⟨ap10, fr17⟩, hin3, h19⟩ := q17
  replace ph0_0 := ph0_0.frame RI.lasts fr17 (ap10.o pa0_0)
  replace ph1_1 := ph1_1.frame RTCond.lasts fr17 (ap10.o pa1_1)
  replace ph1_2 := ph1_2.frame RTAct.lasts fr17 (ap10.o pa1_2)
  replace h2 := h2.frame RTPat.lasts fr17 (ap10.r (i := 3) rfl) (Dj.sub (ap10.o pa1_0) (fun k hk => (by simpa using hin1 k hk : k ∈ pG1_0)))
  replace h3 := fr17 _ _ ((ap10.r (i := 2) rfl) _ (by simp)) h3
  refine la rfl ?_
  obtain ⟨x11, hx11, h⟩ := bs h
  refine lc (k_call (js := [3]) (R := [ob v18, [], [], ob v2, []]) Fun_128 rfl rfl (fun w1 hw ap hl => m_s_l8Any_ok hw.fro N (⟨p0.b, x2.2.i, x2.2.h⟩ : Tl1Cur) ph0_0 h3 (ap.o pa0_0) ap.nd hl hx11)) rfl (fun v19 Φ_19 F7 q18 => ?_)
  obtain ⟨ap11, fr18, v20, rfl, rfl, h20, e7, h21⟩ := q18
  replace ph1_1 := ph1_1.frame RTCond.lasts fr18 (ap11.o pa1_1)
  replace ph1_2 := ph1_2.frame RTAct.lasts fr18 (ap11.o pa1_2)
  replace ph0_0 := ph0_0.frame RI.lasts fr18 (ap11.o pa0_0)
  replace h2 := h2.frame RTPat.lasts fr18 (ap11.r (i := 3) rfl) (Dj.sub (ap11.o pa1_0) (fun k hk => (by simpa using hin1 k hk : k ∈ pG1_0)))
  replace h19 := h19.frame RTAct.lasts fr18 (ap11.r (i := 0) rfl) (Dj.sub (ap11.o pa1_2) (fun k hk => (by simpa using hin3 k hk : k ∈ pG1_2)))
  have rc8 : RC OTAct 5 Φ_19 ([(ob v20 ++ [])] : List (List Nat)) [.int .i64 x11.1.Kind, .string x11.1.Name, v20, .int .i64 x11.1.N, .string x11.1.Undo] ([x11.1] : List TAct) := RC.cons (c := [.int .i64 x11.1.Kind, .string x11.1.Name, v20, .int .i64 x11.1.N, .string x11.1.Undo]) (cells := []) ⟨v20, rfl, rfl, h20⟩ rfl (RC.nil _ _ _)
  refine le' (e_lit (vs := [(0, .agg [.int .i64 x11.1.Kind, .string x11.1.Name, v20, .int .i64 x11.1.N, .string x11.1.Undo].toArray)]) (C := #[.int .i64 x11.1.Kind, .string x11.1.Name, v20, .int .i64 x11.1.N, .string x11.1.Undo]) OTAct.lasts Sl_38 Zr_143 rfl rfl rfl rfl (fill_made MC_143_1 (fill_cons (C' := [.int .i64 x11.1.Kind, .string x11.1.Name, v20, .int .i64 x11.1.N, .string x11.1.Undo]) rfl rfl rfl rfl rfl (fill_nil))) rfl rc8 rfl (RC.kn OTAct.knows rc8)) rfl (fun v21 Φ_20 D16 q19 => ?_)
  obtain ⟨fr19, h22⟩ := q19
  replace h22 : OSl OTAct 143 5 Φ_20 ((ob v20 ++ [])) v21 ([x11.1] : List TAct) := by simpa [List.append_assoc] using h22
  replace ph1_1 := ph1_1.frame RTCond.lasts fr19 (Dj.empty _)
  replace ph1_2 := ph1_2.frame RTAct.lasts fr19 (Dj.empty _)
  replace ph0_0 := ph0_0.frame RI.lasts fr19 (Dj.empty _)
  replace h2 := h2.frame RTPat.lasts fr19 (Dj.empty _) (Dj.empty _)
  replace h19 := h19.frame RTAct.lasts fr19 (Dj.empty _) (Dj.empty _)
  replace h21 := fr19 _ _ (by simp) h21
  refine WL.conv (S' := St w0 Φ_20 [(b_2, .cells #[.string (⟨#[]⟩ : ByteArray), .int .i64 0, .slice none 0 0, .slice none 0 0, .slice none 0 0] 40 (0, 0)), (b_1, .cells #[.string p1.Name, .int .i64 p1.Sal, v2, pv1_1, pv1_2] 40 (0, 0))] [((ob v20 ++ [])), ob v21, [pb0], ob v18, [], [], ob v2, []]) (fun w1 hw => hw.merge (js := [1]) rfl (SP.eq (by simp [List.append_assoc, ob_nil]))) ?_
  obtain ⟨x12, hx12, h⟩ := bs h
  refine le' (e_appO RTAct.lasts RTAct.one Sl_38 Ei_143 rfl rfl rfl rfl rfl (js := [3]) (Rr := [((ob v20 ++ [])), ob v21, [pb0], [], [], ob v2, []]) rfl h19 (h22.gives OTAct.gives) (fun ap => (Dj.sub (ap.o pa1_2) (fun k hk => (by simpa using hin3 k hk : k ∈ pG1_2)))) (fun ap => (ap.r (i := 0) rfl)) hx12) rfl (fun v22 Φ_21 D17 q20 => ?_)
  obtain ⟨⟨ap12, fr20⟩, h23⟩ := q20
  replace ph1_1 := ph1_1.frame RTCond.lasts fr20 (ap12.o pa1_1)
  replace ph1_2 := ph1_2.frame RTAct.lasts fr20 (ap12.o pa1_2)
  replace ph0_0 := ph0_0.frame RI.lasts fr20 (ap12.o pa0_0)
  replace h2 := h2.frame RTPat.lasts fr20 (ap12.r (i := 5) rfl) (Dj.sub (ap12.o pa1_0) (fun k hk => (by simpa using hin1 k hk : k ∈ pG1_0)))
  replace h21 := fr20 _ _ ((ap12.r (i := 2) rfl) _ (by simp)) h21
  refine lf Fld_40_4 rfl rfl rfl <| so1 1 Sz_38 rfl h23.one ?_
  refine en ?_
  have h24 := h23.rsl
  refine WT.conv (S' := St w0 Φ_21 [(b_2, .cells #[.string (⟨#[]⟩ : ByteArray), .int .i64 0, .slice none 0 0, .slice none 0 0, .slice none 0 0] 40 (0, 0)), (b_1, .cells #[.string p1.Name, .int .i64 p1.Sal, v2, pv1_1, v22] 40 (0, 0))] [([] ++ (ob v22 ++ (((ob v20 ++ []))))), ob v21, [pb0], [], ob v2, []]) (fun w1 hw => hw.merge (js := [5, 0, 0]) rfl (SP.eq (by simp [List.append_assoc]))) ?_
  exact wto (K (Φ_21, ([] ++ (ob v22 ++ (((ob v20 ++ []))))), x1, v2, D2, x11.2.i, x11.2.h, p1.Name, p1.Sal, p1.Conds, pv1_1, pG1_1, x12, v22, (ob v22 ++ (D14 ++ ((ob v20 ++ []))))) ⟨h, h2, (fun k hk => (List.mem_append.2 (.inl ((fun k hk => (by simpa using hin1 k hk : k ∈ pG1_0)) k hk)))), h21, ph1_1, (fun k hk => (List.mem_append.2 (.inl hk))), h24, (fun k hk => ((List.mem_append.1 hk).elim (fun h => (List.mem_append.2 (.inr ((fun k hk => (List.mem_append.2 (.inr (List.mem_append.2 (.inl hk))))) k h)))) (fun h => ((List.mem_append.1 h).elim (fun h => (List.mem_append.2 (.inl ((fun k hk => (by simpa using hin3 k hk : k ∈ pG1_2)) k h)))) (fun h => (List.mem_append.2 (.inr ((fun k hk => (List.mem_append.2 (.inr (List.mem_append.2 (.inr hk))))) k h)))))))), ph0_0⟩) ⟨rfl, rfl, trivial⟩ (fun w1 hw => (hw.sel (js := [0, 1, 2]) rfl).selO (js := [0, 0]) rfl)
 refine sr <| la rfl <| la rfl <| en ?_
 refine cdh rfl h (fun c6 h => ?_) (fun c6 h => ?_)
 ·refine rgn <| lf Fld_40_2 rfl rfl rfl <| lo T1_36 1 rfl ?_
  obtain ⟨x13, hx13, h⟩ := bs h
  obtain ⟨cs1, F9, D18, h25, r1, kf1, sp1⟩ := h2.focus hx13
  obtain ⟨v23, G1, rfl, hq1, h26⟩ := r1
  obtain rfl := hq1.symm
  refine lq (q_indexAddrH Sl_36 rfl rfl h25 hx13) rfl <| lf Fld_171_2 rfl rfl rfl ?_
  refine lu (u_setH (js := [2]) (Rr := [[], [pb0], []]) (o := 2) (vs := [.bool true]) (cs' := [.string x13.Kind, v23, .bool true]) RTPat.lasts Sz_4 rfl rfl rfl rfl ⟨rfl, trivial⟩ rfl h25 rfl rfl (fun ap => (Dj.sub (Dj.sub (ap.o pa1_0) (fun k hk => (by simpa using hin1 k hk : k ∈ pG1_0))) (fun k hk => sp1.mem (List.mem_append.2 (.inr hk)))))) rfl (fun Φ_22 D19 q21 => ?_)
  obtain ⟨⟨ap13, fr21⟩, h27⟩ := q21
  replace h26 := h26.frame RTArg.lasts fr21 (Dj.sub (ap13.o pa1_0) (fun k h => (fun k hk => (by simpa using hin1 k hk : k ∈ pG1_0)) k (sp1.mem (List.mem_append.2 (.inl h)))))
  replace ph1_1 := ph1_1.frame RTCond.lasts fr21 (ap13.o pa1_1)
  replace ph1_2 := ph1_2.frame RTAct.lasts fr21 (ap13.o pa1_2)
  replace ph0_0 := ph0_0.frame RI.lasts fr21 (ap13.o pa0_0)
  replace h3 := fr21 _ _ ((ap13.r (i := 1) rfl) _ (by simp)) h3
  refine en ?_
  have r2 : RTPat Φ_22 _ [.string x13.Kind, v23, .bool true] (⟨x13.Kind, x13.Args, true⟩ : TPat) := ⟨v23, G1, rfl, rfl, h26⟩
  obtain ⟨D20, h28, sp2⟩ := h27.unfocus r2 (RTPat.knows _ _ _ _ r2)
  exact wto (K (Φ_22, [], (x1.set (0 : Int).toNat (⟨x13.Kind, x13.Args, true⟩ : TPat)), v2, D20, x2.2.i, x2.2.h, p1.Name, p1.Sal, p1.Conds, pv1_1, pG1_1, p1.Acts, pv1_2, pG1_2) ⟨h, h28, (fun k hk => ((List.mem_append.1 ((fun k hk => (by simpa [List.append_assoc] using sp2.mem hk : k ∈ (G1 ++ D18))) k hk)).elim (fun h => (List.mem_append.2 (.inl ((fun k h => (fun k hk => (by simpa using hin1 k hk : k ∈ pG1_0)) k (sp1.mem (List.mem_append.2 (.inl h)))) k h)))) (fun h => (List.mem_append.2 (.inl ((fun k hk => (fun k hk => (by simpa using hin1 k hk : k ∈ pG1_0)) k (sp1.mem (List.mem_append.2 (.inr hk)))) k h)))))), h3, ph1_1, (fun k hk => (List.mem_append.2 (.inl hk))), ph1_2, (fun k hk => (List.mem_append.2 (.inl hk))), ph0_0⟩) ⟨rfl, rfl, trivial⟩ (fun w1 hw => (hw.sel (js := [1, 1, 0]) rfl).selO (js := [0, 0]) rfl)
 refine sr <| la rfl <| la rfl <| en ?_
 refine cdh rfl h (fun c7 h => ?_) (fun c7 h => ?_)
 ·refine rgn <| lf Fld_40_4 rfl rfl rfl <| lo T1_38 1 rfl ?_
  obtain ⟨x14, hx14, h⟩ := bs h
  refine lq (q_slH Sl_38 rfl rfl ph1_2 hx14) rfl ?_
  obtain ⟨F10, h29, hs1⟩ := ph1_2.sub hx14
  refine lf Fld_40_4 rfl rfl rfl <| so1 1 Sz_38 rfl h29.one ?_
  refine en ?_
  exact wto (K (Φ_3, [], x1, v2, D2, x2.2.i, x2.2.h, p1.Name, p1.Sal, p1.Conds, pv1_1, pG1_1, x14, (slc pv1_2 (0 : Int).toNat (0 : Int).toNat 5), F10) ⟨h, h2, (fun k hk => (List.mem_append.2 (.inl ((fun k hk => (by simpa using hin1 k hk : k ∈ pG1_0)) k hk)))), h3, ph1_1, (fun k hk => (List.mem_append.2 (.inl hk))), h29, (fun k hk => (List.mem_append.2 (.inl (hs1 k hk)))), ph0_0⟩) ⟨rfl, rfl, trivial⟩ (fun w1 hw => (hw.sel (js := [0, 0, 0]) rfl).selO (js := [0, 0]) rfl)
 refine WT.skip ?_
 exact wto (K (Φ_3, [], x1, v2, D2, x2.2.i, x2.2.h, p1.Name, p1.Sal, p1.Conds, pv1_1, pG1_1, p1.Acts, pv1_2, pG1_2) ⟨h, h2, (fun k hk => (List.mem_append.2 (.inl ((fun k hk => (by simpa using hin1 k hk : k ∈ pG1_0)) k hk)))), h3, ph1_1, (fun k hk => (List.mem_append.2 (.inl hk))), ph1_2, (fun k hk => (List.mem_append.2 (.inl hk))), ph0_0⟩) ⟨rfl, rfl, trivial⟩ (fun w1 hw => (hw.sel (js := [0, 0, 0]) rfl).selO (js := [0, 0]) rfl)
end Go.Proofs.YtelchcokfcdndaaGreat
