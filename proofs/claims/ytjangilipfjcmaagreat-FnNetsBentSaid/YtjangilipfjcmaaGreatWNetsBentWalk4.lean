/- Printed by a program of ours: each Go function computes its Lean function. -/
import Derived.Test.YtjangilipfjcmaaGreatProg
import Derived.Test.YtjangilipfjcmaaGreatWNetsBentWalk3
namespace Go.Proofs.YtjangilipfjcmaaGreat
open Eng
open Go.RowKit (Below)
set_option linter.unusedVariables false
set_option linter.unusedSimpArgs false

set_option maxRecDepth 100000
set_option maxHeartbeats 1000000
theorem m_i_isWordByte_ok {Φ : Hp} {w : World} (hΦ : In Φ w) (N : Nat) (p0 : Int)   {r : Bool} (h : m_i_isWordByte N p0 = some r) :
  Calls Tryz.prog 196 [.int .u8 p0].toArray w (Post (.bool r) w) := by
 refine enter Tryz.func196 rfl Tryz.ntmps196 rfl (St.start0 hΦ) ?_
 unfold m_i_isWordByte at h
 refine sr <| lq (q_assign rfl) rfl <| WL.nil <| sr <| lq (q_move rfl) rfl ?_
 obtain ⟨x1, hx1, h⟩ := bind_some h
 refine lp (p_call Fun_138 rfl (fun w1 hw => m_i_isSmall_ok hw.fro N p0 hx1)) rfl <| lq (q_move rfl) rfl ?_
 obtain ⟨b1, hb_1, h⟩ := bind_some h
 refine WL.cutN 3 [(8, .bool b1), (0, .int .u8 p0), (2, .bool false)] ?_ (fun K => ?_)
 rotate_left
 ·refine WL.split (d := 5) rfl (fun c1 => ?_) (fun c1 => ?_)
  ·replace hb_1 := ite_t hb_1 c1
   refine WL.no rfl rfl rfl rfl <| WL.no rfl rfl rfl rfl <| WL.q (q_pick1 rfl rfl) rfl rfl rfl ?_
   cases hb_1
   exact WL.keep (by exact ⟨rfl, rfl, rfl, trivial⟩) K
  ·replace hb_1 := ite_f hb_1 c1
   refine WL.yes rfl rfl <| lq (q_move rfl) rfl <| WL.yes rfl rfl ?_
   obtain ⟨x2, hx2, hb_1⟩ := bind_some hb_1
   refine lp (p_call Fun_224 rfl (fun w1 hw => m_i_isDigit_ok hw.fro N p0 hx2)) rfl <| WL.q (q_pick0 rfl rfl) rfl rfl rfl ?_
   cases hb_1
   exact WL.keep (by exact ⟨rfl, rfl, rfl, trivial⟩) K
 refine lq (q_move rfl) rfl ?_
 obtain ⟨b2, hb_2, h⟩ := bind_some h
 refine WL.cutN 3 [(12, .bool b2), (2, .bool false)] ?_ (fun K => ?_)
 rotate_left
 ·refine WL.split (d := 9) rfl (fun c2 => ?_) (fun c2 => ?_)
  ·replace hb_2 := ite_t hb_2 c2
   refine WL.no rfl rfl rfl rfl <| WL.no rfl rfl rfl rfl <| WL.q (q_pick1 rfl rfl) rfl rfl rfl ?_
   cases hb_2
   exact WL.keep (by exact ⟨rfl, rfl, trivial⟩) K
  ·replace hb_2 := ite_f hb_2 c2
   refine WL.yes rfl rfl <| lq (q_move rfl) rfl <| WL.yes rfl rfl <| lq (q_eql rfl rfl) rfl <| WL.q (q_pick0 rfl rfl) rfl rfl rfl ?_
   cases hb_2
   exact WL.keep (by exact ⟨rfl, rfl, trivial⟩) K
 refine lq (q_assign rfl) rfl <| WL.nil ?_
 refine WT.ret Tryz.func196 (resOk.one rfl) (fun w1 hw => ?_)
 cases h
 exact post_of_St hw
theorem m_i_isWord_ok {Φ : Hp} {w : World} (hΦ : In Φ w) (N : Nat) (p0 : ByteArray) (p1 : Int)   {r : Bool} (h : m_i_isWord N p0 p1 = some r) :
  Calls Tryz.prog 139 [.string p0, .int .i64 p1].toArray w (Post (.bool r) w) := by
 refine enter Tryz.func139 rfl Tryz.ntmps139 rfl (St.start0 hΦ) ?_
 generalize hb0 : (⟨w, [], Φ⟩ : Base) = w0
 unfold m_i_isWord at h
 refine sr <| lq (q_assign rfl) rfl <| WL.nil <| WT.seq <| sr <| lq (q_move rfl) rfl <| lq (q_lenS Str_9 rfl rfl) rfl <| lq (q_move rfl) rfl <| lq (q_gtr rfl rfl) rfl <| WL.nil ?_
 refine WT.cond rfl (fun c1 => ?_) (fun c1 => ?_)
 ·replace h := ite_t h c1
  refine sr <| lq (q_assign rfl) rfl <| WL.nil ?_
  refine WT.ret Tryz.func139 (resOk.one rfl) (fun w1 hw => ?_)
  subst hb0
  cases h
  exact post_of_St hw
 replace h := ite_f h c1
 refine WT.skip <| WT.seq <| sr <| lq (q_assign rfl) rfl <| WL.nil <| WT.block <| WT.loop <| WT.mono (l' := [(0, .string p0), (5, .int .i64 0)]) (S' := St w0 Φ [] []) ⟨rfl, rfl, trivial⟩ (fun w1 hw => (hw.sel (js := []) rfl).selO (js := []) rfl) ?_
 refine loop_ind (σ := Int) (fun s => [(0, .string p0), (5, .int .i64 s)]) (fun s => St w0 Φ [] []) (fun m s => m_i_isWord_l1 N p0 m s = some r) (fun s hm => none_ne (show (none : Option (Bool)) = some r from hm)) (fun n1 ih1 s hm => ?_) N (0) h
 revert hm; revert s; intro s1 hm
 have h : m_i_isWord_l1 N p0 (n1 + 1) s1 = some r := hm
 show WT _ _ [(0, .string p0), (5, .int .i64 s1)] (St w0 Φ [] [])
 unfold m_i_isWord_l1 at h
 refine WT.seq <| sr <| lq (q_move rfl) rfl <| lq (q_move rfl) rfl <| lq (q_lenS Str_9 rfl rfl) rfl <| lq (q_lss rfl rfl) rfl <| WL.nil ?_
 refine WT.cond rfl (fun c2 => ?_) (fun c2 => ?_)
 ·replace h := ite_t h c2
  refine WT.skip <| WT.seq <| WT.block <| sr <| lq (q_move rfl) rfl <| lq (q_move rfl) rfl ?_
  obtain ⟨y1, hy1, h⟩ := bind_some h
  refine lq (q_indexS Str_9 rfl rfl hy1) rfl ?_
  obtain ⟨x1, hx1, h⟩ := bind_some h
  refine lp (p_call Fun_196 rfl (fun w1 hw => m_i_isWordByte_ok hw.fro N (y1.toNat : Int) hx1)) rfl <| lq (q_not rfl) rfl <| WL.nil ?_
  refine WT.cond rfl (fun c3 => ?_) (fun c3 => ?_)
  ·replace h := ite_t h c3
   refine sr <| lq (q_assign rfl) rfl <| WL.nil ?_
   refine WT.ret Tryz.func139 (resOk.one rfl) (fun w1 hw => ?_)
   subst hb0
   cases h
   exact post_of_St hw
  replace h := ite_f h c3
  refine WT.skip <| WT.inBlock <| WT.region <| lq (q_move rfl) rfl <| lq (q_add rfl rfl) rfl <| lq (q_assign rfl) rfl <| WL.nil ?_
  refine WT.inLoop (WT.mono (l' := [(0, .string p0), (5, .int .i64 (IntKind.i64.wrap (s1 + 1)))]) (S' := St w0 Φ [] []) ⟨rfl, rfl, trivial⟩ (fun w1 hw => (hw.sel (js := []) rfl).selO (js := []) rfl) ?_)
  exact ih1 (IntKind.i64.wrap (s1 + 1)) h
 replace h := ite_f h c2
 refine WT.exit rfl <| sr <| lq (q_assign rfl) rfl <| WL.nil ?_
 refine WT.ret Tryz.func139 (resOk.one rfl) (fun w1 hw => ?_)
 subst hb0
 cases h
 exact post_of_St hw
theorem m_i_NameOk_ok {Φ : Hp} {w : World} (hΦ : In Φ w) (N : Nat) (p0 : ByteArray)   {r : Bool} (h : m_i_NameOk N p0 = some r) :
  Calls Tryz.prog 70 [.string p0].toArray w (Post (.bool r) w) := by
 refine enter Tryz.func70 rfl Tryz.ntmps70 rfl (St.start0 hΦ) ?_
 unfold m_i_NameOk at h
 refine sr <| lq (q_assign rfl) rfl <| WL.nil <| sr <| lq (q_move rfl) rfl <| lq (q_lenS Str_9 rfl rfl) rfl <| lq (q_gtr rfl rfl) rfl <| lq (q_move rfl) rfl ?_
 obtain ⟨b1, hb_1, h⟩ := bind_some h
 refine WL.cutN 4 [(10, .bool b1), (0, .string p0), (2, .bool false)] ?_ (fun K => ?_)
 rotate_left
 ·refine WL.split (d := 6) rfl (fun c1 => ?_) (fun c1 => ?_)
  ·replace hb_1 := ite_t hb_1 c1
   refine WL.yes rfl rfl <| lq (q_move rfl) rfl <| WL.yes rfl rfl ?_
   obtain ⟨y1, hy1, hb_1⟩ := bind_some hb_1
   refine lq (q_indexS Str_9 rfl rfl hy1) rfl <| WL.yes rfl rfl ?_
   obtain ⟨x1, hx1, hb_1⟩ := bind_some hb_1
   refine lp (p_call Fun_138 rfl (fun w1 hw => m_i_isSmall_ok hw.fro N (y1.toNat : Int) hx1)) rfl <| WL.q (q_pick1 rfl rfl) rfl rfl rfl ?_
   cases hb_1
   exact WL.keep (by exact ⟨rfl, rfl, rfl, trivial⟩) K
  ·replace hb_1 := ite_f hb_1 c1
   refine WL.no rfl rfl rfl rfl <| WL.no rfl rfl rfl rfl <| WL.no rfl rfl rfl rfl <| WL.q (q_pick0 rfl rfl) rfl rfl rfl ?_
   cases hb_1
   exact WL.keep (by exact ⟨rfl, rfl, rfl, trivial⟩) K
 refine lq (q_move rfl) rfl ?_
 obtain ⟨b2, hb_2, h⟩ := bind_some h
 refine WL.cutN 3 [(14, .bool b2), (2, .bool false)] ?_ (fun K => ?_)
 rotate_left
 ·refine WL.split (d := 11) rfl (fun c2 => ?_) (fun c2 => ?_)
  ·replace hb_2 := ite_t hb_2 c2
   refine WL.yes rfl rfl <| lq (q_move rfl) rfl <| WL.yes rfl rfl ?_
   obtain ⟨x2, hx2, hb_2⟩ := bind_some hb_2
   refine lp (p_call Fun_139 rfl (fun w1 hw => m_i_isWord_ok hw.fro N p0 12 hx2)) rfl <| WL.q (q_pick1 rfl rfl) rfl rfl rfl ?_
   cases hb_2
   exact WL.keep (by exact ⟨rfl, rfl, trivial⟩) K
  ·replace hb_2 := ite_f hb_2 c2
   refine WL.no rfl rfl rfl rfl <| WL.no rfl rfl rfl rfl <| WL.q (q_pick0 rfl rfl) rfl rfl rfl ?_
   cases hb_2
   exact WL.keep (by exact ⟨rfl, rfl, trivial⟩) K
 refine lq (q_assign rfl) rfl <| WL.nil ?_
 refine WT.ret Tryz.func70 (resOk.one rfl) (fun w1 hw => ?_)
 cases h
 exact post_of_St hw
theorem m_i_inRange_ok {Φ : Hp} {w : World} (hΦ : In Φ w) (N : Nat) (p0 : Int) (p1 : Int) (p2 : Int)   {r : Bool} (h : m_i_inRange N p0 p1 p2 = some r) :
  Calls Tryz.prog 71 [.int .i64 p0, .int .i64 p1, .int .i64 p2].toArray w (Post (.bool r) w) := by
 refine enter Tryz.func71 rfl Tryz.ntmps71 rfl (St.start0 hΦ) ?_
 unfold m_i_inRange at h
 refine sr <| lq (q_assign rfl) rfl <| WL.nil <| sr <| lq (q_move rfl) rfl <| lq (q_move rfl) rfl <| lq (q_geq rfl rfl) rfl <| lq (q_move rfl) rfl ?_
 obtain ⟨b1, hb_1, h⟩ := bind_some h
 refine WL.cutN 4 [(14, .bool b1), (6, .bool false)] ?_ (fun K => ?_)
 rotate_left
 ·refine WL.split (d := 10) rfl (fun c1 => ?_) (fun c1 => ?_)
  ·replace hb_1 := ite_t hb_1 c1
   refine WL.yes rfl rfl <| lq (q_move rfl) rfl <| WL.yes rfl rfl <| lq (q_move rfl) rfl <| WL.yes rfl rfl <| lq (q_leq rfl rfl) rfl <| WL.q (q_pick1 rfl rfl) rfl rfl rfl ?_
   cases hb_1
   exact WL.keep (by exact ⟨rfl, rfl, trivial⟩) K
  ·replace hb_1 := ite_f hb_1 c1
   refine WL.no rfl rfl rfl rfl <| WL.no rfl rfl rfl rfl <| WL.no rfl rfl rfl rfl <| WL.q (q_pick0 rfl rfl) rfl rfl rfl ?_
   cases hb_1
   exact WL.keep (by exact ⟨rfl, rfl, trivial⟩) K
 refine lq (q_assign rfl) rfl <| WL.nil ?_
 refine WT.ret Tryz.func71 (resOk.one rfl) (fun w1 hw => ?_)
 cases h
 exact post_of_St hw
theorem m_i_ValOk_ok {Φ : Hp} {w : World} (hΦ : In Φ w) (N : Nat) (p0 : TVal)   {r : Bool} (h : m_i_ValOk N p0 = some r) :
  Calls Tryz.prog 149 [.agg [.int .i64 p0.K, .int .i64 p0.N, .string p0.S].toArray].toArray w (Post (.bool r) w) := by
 refine enter Tryz.func149 rfl Tryz.ntmps149 rfl (St.start0 hΦ) ?_
 unfold m_i_ValOk at h
 refine WT.seq <| WT.region ?_
 refine ln (n_box (C := #[.int .i64 p0.K, .int .i64 p0.N, .string p0.S]) rfl rfl) rfl (fun b_1 => ?_)
 refine lq (q_assign rfl) rfl <| WL.nil <| WT.seq <| sr <| lq (q_fieldAddr Fld_121_0 rfl) rfl <| lq (q_load1 T1_3 rfl (fun w1 hw => hw.rgO (i := 0) rfl 0 1 [.int .i64 p0.K] rfl)) rfl <| WL.nil <| WT.block <| sr <| lq (q_eql rfl rfl) rfl <| lq (q_assign rfl) rfl <| WL.nil ?_
 refine WT.cond rfl (fun c1 => ?_) (fun c1 => ?_)
 ·replace h := ite_t h c1
  refine sr <| lq (q_fieldAddr Fld_121_1 rfl) rfl <| lq (q_load1 T1_3 rfl (fun w1 hw => hw.rgO (i := 0) rfl 1 1 [.int .i64 p0.N] rfl)) rfl ?_
  obtain ⟨x1, hx1, h⟩ := bind_some h
  refine lp (p_call Fun_71 rfl (fun w1 hw => m_i_inRange_ok hw.fro N p0.N (-1000000000) 1000000000 hx1)) rfl <| lq (q_move rfl) rfl ?_
  obtain ⟨b1, hb_1, h⟩ := bind_some h
  refine WL.cutN 4 [(14, .bool b1), (2, .bool false)] ?_ (fun K => ?_)
  rotate_left
  ·refine WL.split (d := 10) rfl (fun c2 => ?_) (fun c2 => ?_)
   ·replace hb_1 := ite_t hb_1 c2
    refine WL.yes rfl rfl <| lq (q_fieldAddr Fld_121_2 rfl) rfl <| WL.yes rfl rfl <| lq (q_load1 T1_9 rfl (fun w1 hw => hw.rgO (i := 0) rfl 2 1 [.string p0.S] rfl)) rfl <| WL.yes rfl rfl <| lq (q_seq rfl rfl) rfl <| WL.q (q_pick1 rfl rfl) rfl rfl rfl ?_
    cases hb_1
    exact WL.keep (by exact ⟨rfl, rfl, trivial⟩) K
   ·replace hb_1 := ite_f hb_1 c2
    refine WL.no rfl rfl rfl rfl <| WL.no rfl rfl rfl rfl <| WL.no rfl rfl rfl rfl <| WL.q (q_pick0 rfl rfl) rfl rfl rfl ?_
    cases hb_1
    exact WL.keep (by exact ⟨rfl, rfl, trivial⟩) K
  refine lq (q_assign rfl) rfl <| WL.nil ?_
  refine WT.ret Tryz.func149 (resOk.one rfl) (fun w1 hw => ?_)
  cases h
  exact post_of_St hw
 replace h := ite_f h c1
 refine sr <| lq (q_eql rfl rfl) rfl <| lq (q_assign rfl) rfl <| WL.nil ?_
 refine WT.cond rfl (fun c3 => ?_) (fun c3 => ?_)
 ·replace h := ite_t h c3
  refine sr <| lq (q_fieldAddr Fld_121_1 rfl) rfl <| lq (q_load1 T1_3 rfl (fun w1 hw => hw.rgO (i := 0) rfl 1 1 [.int .i64 p0.N] rfl)) rfl <| lq (q_eql rfl rfl) rfl <| lq (q_move rfl) rfl ?_
  obtain ⟨b2, hb_2, h⟩ := bind_some h
  refine WL.cutN 4 [(24, .bool b2), (2, .bool false)] ?_ (fun K => ?_)
  rotate_left
  ·refine WL.split (d := 20) rfl (fun c4 => ?_) (fun c4 => ?_)
   ·replace hb_2 := ite_t hb_2 c4
    refine WL.yes rfl rfl <| lq (q_fieldAddr Fld_121_2 rfl) rfl <| WL.yes rfl rfl <| lq (q_load1 T1_9 rfl (fun w1 hw => hw.rgO (i := 0) rfl 2 1 [.string p0.S] rfl)) rfl <| WL.yes rfl rfl ?_
    obtain ⟨x2, hx2, hb_2⟩ := bind_some hb_2
    refine lp (p_call Fun_139 rfl (fun w1 hw => m_i_isWord_ok hw.fro N p0.S 20 hx2)) rfl <| WL.q (q_pick1 rfl rfl) rfl rfl rfl ?_
    cases hb_2
    exact WL.keep (by exact ⟨rfl, rfl, trivial⟩) K
   ·replace hb_2 := ite_f hb_2 c4
    refine WL.no rfl rfl rfl rfl <| WL.no rfl rfl rfl rfl <| WL.no rfl rfl rfl rfl <| WL.q (q_pick0 rfl rfl) rfl rfl rfl ?_
    cases hb_2
    exact WL.keep (by exact ⟨rfl, rfl, trivial⟩) K
  refine lq (q_assign rfl) rfl <| WL.nil ?_
  refine WT.ret Tryz.func149 (resOk.one rfl) (fun w1 hw => ?_)
  cases h
  exact post_of_St hw
 replace h := ite_f h c3
 refine WT.skip <| WT.inBlock <| sr <| lq (q_assign rfl) rfl <| WL.nil ?_
 refine WT.ret Tryz.func149 (resOk.one rfl) (fun w1 hw => ?_)
 cases h
 exact post_of_St hw
theorem m_i_isLarge_ok {Φ : Hp} {w : World} (hΦ : In Φ w) (N : Nat) (p0 : Int)   {r : Bool} (h : m_i_isLarge N p0 = some r) :
  Calls Tryz.prog 244 [.int .u8 p0].toArray w (Post (.bool r) w) := by
 refine enter Tryz.func244 rfl Tryz.ntmps244 rfl (St.start0 hΦ) ?_
 unfold m_i_isLarge at h
 refine sr <| lq (q_assign rfl) rfl <| WL.nil <| sr <| lq (q_move rfl) rfl <| lq (q_geq rfl rfl) rfl <| lq (q_move rfl) rfl ?_
 obtain ⟨b1, hb_1, h⟩ := bind_some h
 refine WL.cutN 3 [(8, .bool b1), (2, .bool false)] ?_ (fun K => ?_)
 rotate_left
 ·refine WL.split (d := 5) rfl (fun c1 => ?_) (fun c1 => ?_)
  ·replace hb_1 := ite_t hb_1 c1
   refine WL.yes rfl rfl <| lq (q_move rfl) rfl <| WL.yes rfl rfl <| lq (q_leq rfl rfl) rfl <| WL.q (q_pick1 rfl rfl) rfl rfl rfl ?_
   cases hb_1
   exact WL.keep (by exact ⟨rfl, rfl, trivial⟩) K
  ·replace hb_1 := ite_f hb_1 c1
   refine WL.no rfl rfl rfl rfl <| WL.no rfl rfl rfl rfl <| WL.q (q_pick0 rfl rfl) rfl rfl rfl ?_
   cases hb_1
   exact WL.keep (by exact ⟨rfl, rfl, trivial⟩) K
 refine lq (q_assign rfl) rfl <| WL.nil ?_
 refine WT.ret Tryz.func244 (resOk.one rfl) (fun w1 hw => ?_)
 cases h
 exact post_of_St hw
theorem m_i_isVar_ok {Φ : Hp} {w : World} (hΦ : In Φ w) (N : Nat) (p0 : ByteArray)   {r : Bool} (h : m_i_isVar N p0 = some r) :
  Calls Tryz.prog 225 [.string p0].toArray w (Post (.bool r) w) := by
 refine enter Tryz.func225 rfl Tryz.ntmps225 rfl (St.start0 hΦ) ?_
 generalize hb0 : (⟨w, [], Φ⟩ : Base) = w0
 unfold m_i_isVar at h
 refine sr <| lq (q_assign rfl) rfl <| WL.nil <| WT.seq <| sr <| lq (q_move rfl) rfl <| lq (q_lenS Str_9 rfl rfl) rfl <| lq (q_lss rfl rfl) rfl <| lq (q_move rfl) rfl ?_
 obtain ⟨b1, hb_1, h⟩ := bind_some h
 refine WL.cutN 4 [(11, .bool b1), (0, .string p0)] ?_ (fun K => ?_)
 rotate_left
 ·refine WL.split (d := 7) rfl (fun c1 => ?_) (fun c1 => ?_)
  ·replace hb_1 := ite_t hb_1 c1
   refine WL.no rfl rfl rfl rfl <| WL.no rfl rfl rfl rfl <| WL.no rfl rfl rfl rfl <| WL.q (q_pick1 rfl rfl) rfl rfl rfl ?_
   cases hb_1
   exact WL.keep (by exact ⟨rfl, rfl, trivial⟩) K
  ·replace hb_1 := ite_f hb_1 c1
   refine WL.yes rfl rfl <| lq (q_move rfl) rfl <| WL.yes rfl rfl <| lq (q_lenS Str_9 rfl rfl) rfl <| WL.yes rfl rfl <| lq (q_gtr rfl rfl) rfl <| WL.q (q_pick0 rfl rfl) rfl rfl rfl ?_
   cases hb_1
   exact WL.keep (by exact ⟨rfl, rfl, trivial⟩) K
 refine lq (q_move rfl) rfl ?_
 obtain ⟨b2, hb_2, h⟩ := bind_some h
 refine WL.cutN 5 [(17, .bool b2), (0, .string p0)] ?_ (fun K => ?_)
 rotate_left
 ·refine WL.split (d := 12) rfl (fun c2 => ?_) (fun c2 => ?_)
  ·replace hb_2 := ite_t hb_2 c2
   refine WL.no rfl rfl rfl rfl <| WL.no rfl rfl rfl rfl <| WL.no rfl rfl rfl rfl <| WL.no rfl rfl rfl rfl <| WL.q (q_pick1 rfl rfl) rfl rfl rfl ?_
   cases hb_2
   exact WL.keep (by exact ⟨rfl, rfl, trivial⟩) K
  ·replace hb_2 := ite_f hb_2 c2
   refine WL.yes rfl rfl <| lq (q_move rfl) rfl <| WL.yes rfl rfl ?_
   obtain ⟨y1, hy1, hb_2⟩ := bind_some hb_2
   refine lq (q_indexS Str_9 rfl rfl hy1) rfl <| WL.yes rfl rfl ?_
   obtain ⟨x1, hx1, hb_2⟩ := bind_some hb_2
   refine lp (p_call Fun_244 rfl (fun w1 hw => m_i_isLarge_ok hw.fro N (y1.toNat : Int) hx1)) rfl <| WL.yes rfl rfl <| lq (q_not rfl) rfl <| WL.q (q_pick0 rfl rfl) rfl rfl rfl ?_
   cases hb_2
   exact WL.keep (by exact ⟨rfl, rfl, trivial⟩) K
 refine WL.nil ?_
 refine WT.cond rfl (fun c3 => ?_) (fun c3 => ?_)
 ·replace h := ite_t h c3
  refine sr <| lq (q_assign rfl) rfl <| WL.nil ?_
  refine WT.ret Tryz.func225 (resOk.one rfl) (fun w1 hw => ?_)
  subst hb0
  cases h
  exact post_of_St hw
 replace h := ite_f h c3
 refine WT.skip <| WT.seq <| sr <| lq (q_assign rfl) rfl <| WL.nil <| WT.block <| WT.loop <| WT.mono (l' := [(0, .string p0), (3, .int .i64 0)]) (S' := St w0 Φ [] []) ⟨rfl, rfl, trivial⟩ (fun w1 hw => (hw.sel (js := []) rfl).selO (js := []) rfl) ?_
 refine loop_ind (σ := Int) (fun s => [(0, .string p0), (3, .int .i64 s)]) (fun s => St w0 Φ [] []) (fun m s => m_i_isVar_l1 N p0 m s = some r) (fun s hm => none_ne (show (none : Option (Bool)) = some r from hm)) (fun n1 ih1 s hm => ?_) N (0) h
 revert hm; revert s; intro s1 hm
 have h : m_i_isVar_l1 N p0 (n1 + 1) s1 = some r := hm
 show WT _ _ [(0, .string p0), (3, .int .i64 s1)] (St w0 Φ [] [])
 unfold m_i_isVar_l1 at h
 refine WT.seq <| sr <| lq (q_move rfl) rfl <| lq (q_move rfl) rfl <| lq (q_lenS Str_9 rfl rfl) rfl <| lq (q_lss rfl rfl) rfl <| WL.nil ?_
 refine WT.cond rfl (fun c4 => ?_) (fun c4 => ?_)
 ·replace h := ite_t h c4
  refine WT.skip <| WT.seq <| WT.block <| sr <| lq (q_move rfl) rfl <| lq (q_move rfl) rfl ?_
  obtain ⟨y2, hy2, h⟩ := bind_some h
  refine lq (q_indexS Str_9 rfl rfl hy2) rfl ?_
  obtain ⟨x2, hx2, h⟩ := bind_some h
  refine lp (p_call Fun_196 rfl (fun w1 hw => m_i_isWordByte_ok hw.fro N (y2.toNat : Int) hx2)) rfl <| lq (q_not rfl) rfl <| lq (q_move rfl) rfl ?_
  obtain ⟨b3, hb_3, h⟩ := bind_some h
  refine WL.cutN 6 [(35, .bool b3), (0, .string p0), (3, .int .i64 s1)] ?_ (fun K => ?_)
  rotate_left
  ·refine WL.split (d := 29) rfl (fun c5 => ?_) (fun c5 => ?_)
   ·replace hb_3 := ite_t hb_3 c5
    refine WL.yes rfl rfl <| lq (q_move rfl) rfl <| WL.yes rfl rfl <| lq (q_move rfl) rfl <| WL.yes rfl rfl ?_
    obtain ⟨y3, hy3, hb_3⟩ := bind_some hb_3
    refine lq (q_indexS Str_9 rfl rfl hy3) rfl <| WL.yes rfl rfl ?_
    obtain ⟨x3, hx3, hb_3⟩ := bind_some hb_3
    refine lp (p_call Fun_244 rfl (fun w1 hw => m_i_isLarge_ok hw.fro N (y3.toNat : Int) hx3)) rfl <| WL.yes rfl rfl <| lq (q_not rfl) rfl <| WL.q (q_pick1 rfl rfl) rfl rfl rfl ?_
    cases hb_3
    exact WL.keep (by exact ⟨rfl, rfl, rfl, trivial⟩) K
   ·replace hb_3 := ite_f hb_3 c5
    refine WL.no rfl rfl rfl rfl <| WL.no rfl rfl rfl rfl <| WL.no rfl rfl rfl rfl <| WL.no rfl rfl rfl rfl <| WL.no rfl rfl rfl rfl <| WL.q (q_pick0 rfl rfl) rfl rfl rfl ?_
    cases hb_3
    exact WL.keep (by exact ⟨rfl, rfl, rfl, trivial⟩) K
  refine WL.nil ?_
  refine WT.cond rfl (fun c6 => ?_) (fun c6 => ?_)
  ·replace h := ite_t h c6
   refine sr <| lq (q_assign rfl) rfl <| WL.nil ?_
   refine WT.ret Tryz.func225 (resOk.one rfl) (fun w1 hw => ?_)
   subst hb0
   cases h
   exact post_of_St hw
  replace h := ite_f h c6
  refine WT.skip <| WT.inBlock <| WT.region <| lq (q_move rfl) rfl <| lq (q_add rfl rfl) rfl <| lq (q_assign rfl) rfl <| WL.nil ?_
  refine WT.inLoop (WT.mono (l' := [(0, .string p0), (3, .int .i64 (IntKind.i64.wrap (s1 + 1)))]) (S' := St w0 Φ [] []) ⟨rfl, rfl, trivial⟩ (fun w1 hw => (hw.sel (js := []) rfl).selO (js := []) rfl) ?_)
  exact ih1 (IntKind.i64.wrap (s1 + 1)) h
 replace h := ite_f h c4
 refine WT.exit rfl <| sr <| lq (q_assign rfl) rfl <| WL.nil ?_
 refine WT.ret Tryz.func225 (resOk.one rfl) (fun w1 hw => ?_)
 subst hb0
 cases h
 exact post_of_St hw
theorem m_i_ArgOk_ok {Φ : Hp} {w : World} (hΦ : In Φ w) (N : Nat) (p0 : TArg)   {r : Bool} (h : m_i_ArgOk N p0 = some r) :
  Calls Tryz.prog 197 [.agg [.int .i64 p0.K, .string p0.S, .int .i64 p0.V.K, .int .i64 p0.V.N, .string p0.V.S].toArray].toArray w (Post (.bool r) w) := by
 refine enter Tryz.func197 rfl Tryz.ntmps197 rfl (St.start0 hΦ) ?_
 unfold m_i_ArgOk at h
 refine WT.seq <| WT.region ?_
 refine ln (n_box (C := #[.int .i64 p0.K, .string p0.S, .int .i64 p0.V.K, .int .i64 p0.V.N, .string p0.V.S]) rfl rfl) rfl (fun b_1 => ?_)
 refine lq (q_assign rfl) rfl <| WL.nil <| WT.seq <| sr <| lq (q_fieldAddr Fld_126_0 rfl) rfl <| lq (q_load1 T1_3 rfl (fun w1 hw => hw.rgO (i := 0) rfl 0 1 [.int .i64 p0.K] rfl)) rfl <| WL.nil <| WT.block <| sr <| lq (q_eql rfl rfl) rfl <| lq (q_assign rfl) rfl <| WL.nil ?_
 refine WT.cond rfl (fun c1 => ?_) (fun c1 => ?_)
 ·replace h := ite_t h c1
  refine sr <| lq (q_fieldAddr Fld_126_1 rfl) rfl <| lq (q_load1 T1_9 rfl (fun w1 hw => hw.rgO (i := 0) rfl 1 1 [.string p0.S] rfl)) rfl ?_
  obtain ⟨x1, hx1, h⟩ := bind_some h
  refine lp (p_call Fun_225 rfl (fun w1 hw => m_i_isVar_ok hw.fro N p0.S hx1)) rfl <| lq (q_move rfl) rfl ?_
  obtain ⟨b1, hb_1, h⟩ := bind_some h
  refine WL.cutN 5 [(15, .bool b1), (2, .bool false)] ?_ (fun K => ?_)
  rotate_left
  ·refine WL.split (d := 10) rfl (fun c2 => ?_) (fun c2 => ?_)
   ·replace hb_1 := ite_t hb_1 c2
    refine WL.yes rfl rfl <| lq (q_fieldAddr Fld_126_2 rfl) rfl <| WL.yes rfl rfl <| lq (q_loadN Tn_121 rfl (fun w1 hw => hw.rgO (i := 0) rfl 2 3 [.int .i64 p0.V.K, .int .i64 p0.V.N, .string p0.V.S] rfl) rfl) rfl <| WL.yes rfl rfl <| lq (q_build (vs := []) (C := #[.int .i64 0, .int .i64 0, .string eS]) Pl_121 Zr_121 rfl (fill_nil)) rfl <| WL.yes rfl rfl <| lq (q_eqA EqT_121 rfl rfl rfl (r := eqT_TVal p0.V (⟨0, 0, eS⟩ : TVal)) rfl) rfl ?_
    refine WL.q (q_pick1 rfl rfl) rfl rfl rfl ?_
    cases hb_1
    exact WL.keep (by exact ⟨rfl, rfl, trivial⟩) K
   ·replace hb_1 := ite_f hb_1 c2
    refine WL.no rfl rfl rfl rfl <| WL.no rfl rfl rfl rfl <| WL.no rfl rfl rfl rfl <| WL.no rfl rfl rfl rfl <| WL.q (q_pick0 rfl rfl) rfl rfl rfl ?_
    cases hb_1
    exact WL.keep (by exact ⟨rfl, rfl, trivial⟩) K
  refine lq (q_assign rfl) rfl <| WL.nil ?_
  refine WT.ret Tryz.func197 (resOk.one rfl) (fun w1 hw => ?_)
  cases h
  exact post_of_St hw
 replace h := ite_f h c1
 refine sr <| lq (q_eql rfl rfl) rfl <| lq (q_assign rfl) rfl <| WL.nil ?_
 refine WT.cond rfl (fun c3 => ?_) (fun c3 => ?_)
 ·replace h := ite_t h c3
  refine sr <| lq (q_fieldAddr Fld_126_1 rfl) rfl <| lq (q_load1 T1_9 rfl (fun w1 hw => hw.rgO (i := 0) rfl 1 1 [.string p0.S] rfl)) rfl <| lq (q_seq rfl rfl) rfl <| lq (q_move rfl) rfl ?_
  obtain ⟨b2, hb_2, h⟩ := bind_some h
  refine WL.cutN 4 [(25, .bool b2), (2, .bool false)] ?_ (fun K => ?_)
  rotate_left
  ·refine WL.split (d := 21) rfl (fun c4 => ?_) (fun c4 => ?_)
   ·replace hb_2 := ite_t hb_2 c4
    refine WL.yes rfl rfl <| lq (q_fieldAddr Fld_126_2 rfl) rfl <| WL.yes rfl rfl <| lq (q_loadN Tn_121 rfl (fun w1 hw => hw.rgO (i := 0) rfl 2 3 [.int .i64 p0.V.K, .int .i64 p0.V.N, .string p0.V.S] rfl) rfl) rfl <| WL.yes rfl rfl ?_
    obtain ⟨x2, hx2, hb_2⟩ := bind_some hb_2
    refine lp (p_call Fun_149 rfl (fun w1 hw => m_i_ValOk_ok hw.fro N p0.V hx2)) rfl <| WL.q (q_pick1 rfl rfl) rfl rfl rfl ?_
    cases hb_2
    exact WL.keep (by exact ⟨rfl, rfl, trivial⟩) K
   ·replace hb_2 := ite_f hb_2 c4
    refine WL.no rfl rfl rfl rfl <| WL.no rfl rfl rfl rfl <| WL.no rfl rfl rfl rfl <| WL.q (q_pick0 rfl rfl) rfl rfl rfl ?_
    cases hb_2
    exact WL.keep (by exact ⟨rfl, rfl, trivial⟩) K
  refine lq (q_assign rfl) rfl <| WL.nil ?_
  refine WT.ret Tryz.func197 (resOk.one rfl) (fun w1 hw => ?_)
  cases h
  exact post_of_St hw
 replace h := ite_f h c3
 refine sr <| lq (q_eql rfl rfl) rfl <| lq (q_assign rfl) rfl <| WL.nil ?_
 refine WT.cond rfl (fun c5 => ?_) (fun c5 => ?_)
 ·replace h := ite_t h c5
  refine sr <| lq (q_fieldAddr Fld_126_1 rfl) rfl <| lq (q_load1 T1_9 rfl (fun w1 hw => hw.rgO (i := 0) rfl 1 1 [.string p0.S] rfl)) rfl <| lq (q_seq rfl rfl) rfl <| lq (q_move rfl) rfl ?_
  obtain ⟨b3, hb_3, h⟩ := bind_some h
  refine WL.cutN 5 [(36, .bool b3), (2, .bool false)] ?_ (fun K => ?_)
  rotate_left
  ·refine WL.split (d := 31) rfl (fun c6 => ?_) (fun c6 => ?_)
   ·replace hb_3 := ite_t hb_3 c6
    refine WL.yes rfl rfl <| lq (q_fieldAddr Fld_126_2 rfl) rfl <| WL.yes rfl rfl <| lq (q_loadN Tn_121 rfl (fun w1 hw => hw.rgO (i := 0) rfl 2 3 [.int .i64 p0.V.K, .int .i64 p0.V.N, .string p0.V.S] rfl) rfl) rfl <| WL.yes rfl rfl <| lq (q_build (vs := []) (C := #[.int .i64 0, .int .i64 0, .string eS]) Pl_121 Zr_121 rfl (fill_nil)) rfl <| WL.yes rfl rfl <| lq (q_eqA EqT_121 rfl rfl rfl (r := eqT_TVal p0.V (⟨0, 0, eS⟩ : TVal)) rfl) rfl ?_
    refine WL.q (q_pick1 rfl rfl) rfl rfl rfl ?_
    cases hb_3
    exact WL.keep (by exact ⟨rfl, rfl, trivial⟩) K
   ·replace hb_3 := ite_f hb_3 c6
    refine WL.no rfl rfl rfl rfl <| WL.no rfl rfl rfl rfl <| WL.no rfl rfl rfl rfl <| WL.no rfl rfl rfl rfl <| WL.q (q_pick0 rfl rfl) rfl rfl rfl ?_
    cases hb_3
    exact WL.keep (by exact ⟨rfl, rfl, trivial⟩) K
  refine lq (q_assign rfl) rfl <| WL.nil ?_
  refine WT.ret Tryz.func197 (resOk.one rfl) (fun w1 hw => ?_)
  cases h
  exact post_of_St hw
 replace h := ite_f h c5
 refine WT.skip <| WT.inBlock <| sr <| lq (q_assign rfl) rfl <| WL.nil ?_
 refine WT.ret Tryz.func197 (resOk.one rfl) (fun w1 hw => ?_)
 cases h
 exact post_of_St hw
theorem m_i_PatOk_ok {Φ : Hp} {w : World} (hΦ : In Φ w) (N : Nat) (p0 : TPat) {pv0_0 : Value} {pG0_0 : List Nat} (ph0_0 : RSl RTArg 5 Φ pG0_0 pv0_0 p0.Args) {r : Bool} (h : m_i_PatOk N p0 = some r) :
  Calls Tryz.prog 140 [.agg [.string p0.Kind, pv0_0, .bool p0.Not].toArray].toArray w (Post (.bool r) w) := by
 refine enter Tryz.func140 rfl Tryz.ntmps140 rfl (St.start0 hΦ) ?_
 generalize hb0 : (⟨w, [], Φ⟩ : Base) = w0
 unfold m_i_PatOk at h
 refine WT.seq <| WT.region ?_
 refine ln (n_box (C := #[.string p0.Kind, pv0_0, .bool p0.Not]) rfl rfl) rfl (fun b_1 => ?_)
 refine lq (q_assign rfl) rfl <| WL.nil <| WT.seq <| sr <| lq (q_fieldAddr Fld_114_0 rfl) rfl <| lq (q_load1 T1_9 rfl (fun w1 hw => hw.rgO (i := 0) rfl 0 1 [.string p0.Kind] rfl)) rfl ?_
 obtain ⟨x1, hx1, h⟩ := bind_some h
 refine lp (p_call Fun_70 rfl (fun w1 hw => m_i_NameOk_ok hw.fro N p0.Kind hx1)) rfl <| lq (q_not rfl) rfl <| lq (q_move rfl) rfl ?_
 obtain ⟨b1, hb_1, h⟩ := bind_some h
 refine WL.cutN 5 [(14, .bool b1), (1, .pointer (some ⟨b_1, 0, none⟩))] ?_ (fun K => ?_)
 rotate_left
 ·refine WL.split (d := 9) rfl (fun c1 => ?_) (fun c1 => ?_)
  ·replace hb_1 := ite_t hb_1 c1
   refine WL.no rfl rfl rfl rfl <| WL.no rfl rfl rfl rfl <| WL.no rfl rfl rfl rfl <| WL.no rfl rfl rfl rfl <| WL.q (q_pick1 rfl rfl) rfl rfl rfl ?_
   cases hb_1
   exact WL.keep (by exact ⟨rfl, rfl, trivial⟩) K
  ·replace hb_1 := ite_f hb_1 c1
   refine WL.yes rfl rfl <| lq (q_fieldAddr Fld_114_1 rfl) rfl <| WL.yes rfl rfl <| lq (q_load1 T1_112 rfl (fun w1 hw => hw.rgO (i := 0) rfl 1 1 [pv0_0] rfl)) rfl <| WL.yes rfl rfl <| lq (q_lenR Sl_112 rfl rfl ph0_0) rfl <| WL.yes rfl rfl <| lq (q_gtr rfl rfl) rfl <| WL.q (q_pick0 rfl rfl) rfl rfl rfl ?_
   cases hb_1
   exact WL.keep (by exact ⟨rfl, rfl, trivial⟩) K
 refine WL.nil ?_
 refine WT.cond rfl (fun c2 => ?_) (fun c2 => ?_)
 ·replace h := ite_t h c2
  refine sr <| lq (q_assign rfl) rfl <| WL.nil ?_
  refine WT.ret Tryz.func140 (resOk.one rfl) (fun w1 hw => ?_)
  subst hb0
  cases h
  exact post_of_St hw
 replace h := ite_f h c2
 refine WT.skip <| WT.seq <| sr <| lq (q_fieldAddr Fld_114_1 rfl) rfl <| lq (q_load1 T1_112 rfl (fun w1 hw => hw.rgO (i := 0) rfl 1 1 [pv0_0] rfl)) rfl <| lq (q_lenR Sl_112 rfl rfl ph0_0) rfl <| lq (q_move rfl) rfl <| WL.nil <| WT.block <| WT.loop <| WT.mono (l' := [(16, pv0_0), (17, .int .i64 (p0.Args.length : Int)), (18, .int .i64 0)]) (S' := St w0 Φ [] []) ⟨rfl, rfl, rfl, trivial⟩ (fun w1 hw => (hw.sel (js := []) rfl).selO (js := []) rfl) ?_
 refine loop_ind (σ := Int) (fun s => [(16, pv0_0), (17, .int .i64 (p0.Args.length : Int)), (18, .int .i64 s)]) (fun s => St w0 Φ [] []) (fun m s => m_i_PatOk_l1 N p0 m s = some r) (fun s hm => none_ne (show (none : Option (Bool)) = some r from hm)) (fun n1 ih1 s hm => ?_) N (0) h
 revert hm; revert s; intro s1 hm
 have h : m_i_PatOk_l1 N p0 (n1 + 1) s1 = some r := hm
 show WT _ _ [(16, pv0_0), (17, .int .i64 (p0.Args.length : Int)), (18, .int .i64 s1)] (St w0 Φ [] [])
 unfold m_i_PatOk_l1 at h
 refine sr <| lq (q_lss rfl rfl) rfl <| WL.nil <| WT.seq ?_
 refine WT.cond rfl (fun c3 => ?_) (fun c3 => ?_)
 ·replace h := ite_t h c3
  refine WT.skip <| WT.seq <| WT.block <| WT.seq <| WT.region ?_
  obtain ⟨x2, hx2, h⟩ := bind_some h
  obtain ⟨cs1, F1, -, g1, hb1, hs1, r1⟩ := ph0_0.el (idx_some hx2).2.2
  obtain ⟨rfl, -⟩ := r1
  refine lq (q_indexAddr Sl_112 rfl rfl ph0_0 hx2) rfl <| lq (q_loadN Tn_126 rfl (fun w1 hw => (g1.of_eq 0 5 rfl rfl : rg _ _ _ [.int .i64 x2.K, .string x2.S, .int .i64 x2.V.K, .int .i64 x2.V.N, .string x2.V.S]).rangeAt hw.fro) rfl) rfl ?_
  refine ln (n_alloc (C := #[.int .i64 0, .string eS, .int .i64 0, .int .i64 0, .string eS]) Zr_126 rfl) rfl (fun b_2 => ?_)
  refine ls (s_store (i := 0) (vs := [.int .i64 x2.K, .string x2.S, .int .i64 x2.V.K, .int .i64 x2.V.N, .string x2.V.S]) (C' := [.int .i64 x2.K, .string x2.S, .int .i64 x2.V.K, .int .i64 x2.V.N, .string x2.V.S]) (O' := [(b_2, .cells #[.int .i64 x2.K, .string x2.S, .int .i64 x2.V.K, .int .i64 x2.V.N, .string x2.V.S] 126 (0, 0))]) Sz_126 rfl rfl rfl rfl rfl rfl ⟨rfl, rfl, rfl, rfl, rfl, trivial⟩ rfl rfl) rfl ?_
  refine WL.nil <| sr <| lq (q_loadN Tn_126 rfl (fun w1 hw => hw.rgO (i := 0) rfl 0 5 [.int .i64 x2.K, .string x2.S, .int .i64 x2.V.K, .int .i64 x2.V.N, .string x2.V.S] rfl) rfl) rfl ?_
  obtain ⟨x3, hx3, h⟩ := bind_some h
  refine lp (p_call Fun_197 rfl (fun w1 hw => m_i_ArgOk_ok hw.fro N x2 hx3)) rfl <| lq (q_not rfl) rfl <| WL.nil ?_
  refine WT.cond rfl (fun c4 => ?_) (fun c4 => ?_)
  ·replace h := ite_t h c4
   refine sr <| lq (q_assign rfl) rfl <| WL.nil ?_
   refine WT.ret Tryz.func140 (resOk.one rfl) (fun w1 hw => ?_)
   subst hb0
   cases h
   exact post_of_St hw
  replace h := ite_f h c4
  refine WT.skip <| WT.inBlock <| WT.region <| lq (q_add rfl rfl) rfl <| lq (q_move rfl) rfl <| WL.nil ?_
  refine WT.inLoop (WT.mono (l' := [(16, pv0_0), (17, .int .i64 (p0.Args.length : Int)), (18, .int .i64 (IntKind.i64.wrap (s1 + 1)))]) (S' := St w0 Φ [] []) ⟨rfl, rfl, rfl, trivial⟩ (fun w1 hw => (hw.sel (js := []) rfl).selO (js := []) rfl) ?_)
  exact ih1 (IntKind.i64.wrap (s1 + 1)) h
 replace h := ite_f h c3
 refine WT.exit rfl <| sr <| lq (q_assign rfl) rfl <| WL.nil ?_
 refine WT.ret Tryz.func140 (resOk.one rfl) (fun w1 hw => ?_)
 subst hb0
 cases h
 exact post_of_St hw
theorem m_i_patsOk_ok {Φ : Hp} {w : World} (hΦ : In Φ w) (N : Nat) (p0 : TRule) {pv0_0 : Value} {pG0_0 : List Nat} {pv0_1 : Value} {pG0_1 : List Nat} {pv0_2 : Value} {pG0_2 : List Nat} (ph0_0 : RSl RTPat 3 Φ pG0_0 pv0_0 p0.Pats) (ph0_1 : RSl RTCond 11 Φ pG0_1 pv0_1 p0.Conds) (ph0_2 : RSl RTAct 5 Φ pG0_2 pv0_2 p0.Acts) {r : Bool} (h : m_i_patsOk N p0 = some r) :
  Calls Tryz.prog 72 [.agg [.string p0.Name, .int .i64 p0.Sal, pv0_0, pv0_1, pv0_2].toArray].toArray w (Post (.bool r) w) := by
 refine enter Tryz.func72 rfl Tryz.ntmps72 rfl (St.start0 hΦ) ?_
 generalize hb0 : (⟨w, [], Φ⟩ : Base) = w0
 unfold m_i_patsOk at h
 refine WT.seq <| WT.region ?_
 refine ln (n_box (C := #[.string p0.Name, .int .i64 p0.Sal, pv0_0, pv0_1, pv0_2]) rfl rfl) rfl (fun b_1 => ?_)
 refine lq (q_assign rfl) rfl <| WL.nil <| WT.seq <| sr <| lq (q_fieldAddr Fld_49_2 rfl) rfl <| lq (q_load1 T1_45 rfl (fun w1 hw => hw.rgO (i := 0) rfl 2 1 [pv0_0] rfl)) rfl <| lq (q_lenR Sl_45 rfl rfl ph0_0) rfl ?_
 obtain ⟨x1, hx1, h⟩ := bind_some h
 refine lp (p_call Fun_71 rfl (fun w1 hw => m_i_inRange_ok hw.fro N (p0.Pats.length : Int) 1 6 hx1)) rfl <| lq (q_not rfl) rfl <| lq (q_move rfl) rfl ?_
 obtain ⟨b1, hb_1, h⟩ := bind_some h
 refine WL.cutN 5 [(15, .bool b1), (1, .pointer (some ⟨b_1, 0, none⟩))] ?_ (fun K => ?_)
 rotate_left
 ·refine WL.split (d := 10) rfl (fun c1 => ?_) (fun c1 => ?_)
  ·replace hb_1 := ite_t hb_1 c1
   refine WL.no rfl rfl rfl rfl <| WL.no rfl rfl rfl rfl <| WL.no rfl rfl rfl rfl <| WL.no rfl rfl rfl rfl <| WL.q (q_pick1 rfl rfl) rfl rfl rfl ?_
   cases hb_1
   exact WL.keep (by exact ⟨rfl, rfl, trivial⟩) K
  ·replace hb_1 := ite_f hb_1 c1
   refine WL.yes rfl rfl <| lq (q_loadN Tn_49 rfl (fun w1 hw => hw.rgO (i := 0) rfl 0 5 [.string p0.Name, .int .i64 p0.Sal, pv0_0, pv0_1, pv0_2] rfl) rfl) rfl <| WL.yes rfl rfl ?_
   obtain ⟨x2, hx2, hb_1⟩ := bind_some hb_1
   refine lp (p_call Fun_24 rfl (fun w1 hw => m_i_PosCount_ok hw.fro N p0 ph0_0 ph0_1 ph0_2 hx2)) rfl <| WL.yes rfl rfl ?_
   obtain ⟨x3, hx3, hb_1⟩ := bind_some hb_1
   refine lp (p_call Fun_71 rfl (fun w1 hw => m_i_inRange_ok hw.fro N x2 1 3 hx3)) rfl <| WL.yes rfl rfl <| lq (q_not rfl) rfl <| WL.q (q_pick0 rfl rfl) rfl rfl rfl ?_
   cases hb_1
   exact WL.keep (by exact ⟨rfl, rfl, trivial⟩) K
 refine WL.nil ?_
 refine WT.cond rfl (fun c2 => ?_) (fun c2 => ?_)
 ·replace h := ite_t h c2
  refine sr <| lq (q_assign rfl) rfl <| WL.nil ?_
  refine WT.ret Tryz.func72 (resOk.one rfl) (fun w1 hw => ?_)
  subst hb0
  cases h
  exact post_of_St hw
 replace h := ite_f h c2
 refine WT.skip <| WT.seq <| sr <| lq (q_fieldAddr Fld_49_2 rfl) rfl <| lq (q_load1 T1_45 rfl (fun w1 hw => hw.rgO (i := 0) rfl 2 1 [pv0_0] rfl)) rfl <| lq (q_lenR Sl_45 rfl rfl ph0_0) rfl <| lq (q_move rfl) rfl <| WL.nil <| WT.block <| WT.loop <| WT.mono (l' := [(1, .pointer (some ⟨b_1, 0, none⟩)), (17, pv0_0), (18, .int .i64 (p0.Pats.length : Int)), (19, .int .i64 0)]) (S' := St w0 Φ [(b_1, .cells #[.string p0.Name, .int .i64 p0.Sal, pv0_0, pv0_1, pv0_2] 49 (0, 0))] []) ⟨rfl, rfl, rfl, rfl, trivial⟩ (fun w1 hw => (hw.sel (js := []) rfl).selO (js := [0]) rfl) ?_
 refine loop_ind (σ := Int) (fun s => [(1, .pointer (some ⟨b_1, 0, none⟩)), (17, pv0_0), (18, .int .i64 (p0.Pats.length : Int)), (19, .int .i64 s)]) (fun s => St w0 Φ [(b_1, .cells #[.string p0.Name, .int .i64 p0.Sal, pv0_0, pv0_1, pv0_2] 49 (0, 0))] []) (fun m s => m_i_patsOk_l1 N p0 m s = some r) (fun s hm => none_ne (show (none : Option (Bool)) = some r from hm)) (fun n1 ih1 s hm => ?_) N (0) h
 revert hm; revert s; intro s1 hm
 have h : m_i_patsOk_l1 N p0 (n1 + 1) s1 = some r := hm
 show WT _ _ [(1, .pointer (some ⟨b_1, 0, none⟩)), (17, pv0_0), (18, .int .i64 (p0.Pats.length : Int)), (19, .int .i64 s1)] (St w0 Φ [(b_1, .cells #[.string p0.Name, .int .i64 p0.Sal, pv0_0, pv0_1, pv0_2] 49 (0, 0))] [])
 unfold m_i_patsOk_l1 at h
 refine sr <| lq (q_lss rfl rfl) rfl <| WL.nil <| WT.seq ?_
 refine WT.cond rfl (fun c3 => ?_) (fun c3 => ?_)
 ·replace h := ite_t h c3
  refine WT.skip <| WT.seq <| WT.block <| sr <| lq (q_move rfl) rfl ?_
  obtain ⟨x4, hx4, h⟩ := bind_some h
  obtain ⟨cs1, F1, -, g1, hb1, hs1, r1⟩ := ph0_0.el (idx_some hx4).2.2
  obtain ⟨v1, G1, rfl, hq1, h1⟩ := r1
  obtain rfl := hq1.symm
  refine lq (q_indexAddr Sl_45 rfl rfl ph0_0 hx4) rfl <| lq (q_loadN Tn_114 rfl (fun w1 hw => (g1.of_eq 0 3 rfl rfl : rg _ _ _ [.string x4.Kind, v1, .bool x4.Not]).rangeAt hw.fro) rfl) rfl ?_
  refine ln (n_alloc (C := #[.string eS, .slice none 0 0, .bool false]) Zr_114 rfl) rfl (fun b_2 => ?_)
  refine lq (q_assign rfl) rfl <| ls (s_store (i := 0) (vs := [.string x4.Kind, v1, .bool x4.Not]) (C' := [.string x4.Kind, v1, .bool x4.Not]) (O' := [(b_2, .cells #[.string x4.Kind, v1, .bool x4.Not] 114 (0, 0)), (b_1, .cells #[.string p0.Name, .int .i64 p0.Sal, pv0_0, pv0_1, pv0_2] 49 (0, 0))]) Sz_114 rfl rfl rfl rfl rfl rfl ⟨rfl, h1.one, rfl, trivial⟩ rfl rfl) rfl <| WL.nil <| WT.seq <| WT.draw mixed (by kernel_rfl) (fun _ h => h.drew) ?_
  refine qq (q_loadN Tn_114 rfl (fun w1 hw => hw.rgO (i := 0) rfl 0 3 [.string x4.Kind, v1, .bool x4.Not] rfl) rfl) rfl ?_
  obtain ⟨x5, hx5, h⟩ := bind_some h
  refine qp (p_call Fun_140 rfl (fun w1 hw => m_i_PatOk_ok hw.fro N x4 h1 hx5)) rfl <| qq (q_not rfl) rfl <| qq (q_move rfl) rfl ?_
  obtain ⟨b2, hb_2, h⟩ := bind_some h
  refine WQ.cutN 8 [(35, .bool b2), (1, .pointer (some ⟨b_1, 0, none⟩)), (17, pv0_0), (18, .int .i64 (p0.Pats.length : Int)), (19, .int .i64 s1)] ?_ (fun K => ?_)
  rotate_left
  ·refine WQ.split (d := 27) rfl (fun c4 => ?_) (fun c4 => ?_)
   ·replace hb_2 := ite_t hb_2 c4
    refine WQ.no rfl rfl rfl rfl <| WQ.no rfl rfl rfl rfl <| WQ.no rfl rfl rfl rfl <| WQ.no rfl rfl rfl rfl <| WQ.no rfl rfl rfl rfl <| WQ.no rfl rfl rfl rfl <| WQ.no rfl rfl rfl rfl <| WQ.q (q_pick1 rfl rfl) rfl rfl rfl ?_
    cases hb_2
    exact WQ.keep (by exact ⟨rfl, rfl, rfl, rfl, rfl, trivial⟩) K
   ·replace hb_2 := ite_f hb_2 c4
    refine WQ.yes rfl rfl <| qq (q_fieldAddr Fld_114_2 rfl) rfl <| WQ.yes rfl rfl <| qq (q_load1 T1_4 rfl (fun w1 hw => hw.rgO (i := 0) rfl 2 1 [.bool x4.Not] rfl)) rfl <| WQ.yes rfl rfl <| qq (q_move rfl) rfl <| WQ.yes rfl rfl <| qq (q_loadN Tn_49 rfl (fun w1 hw => hw.rgO (i := 1) rfl 0 5 [.string p0.Name, .int .i64 p0.Sal, pv0_0, pv0_1, pv0_2] rfl) rfl) rfl <| WQ.yes rfl rfl ?_
    obtain ⟨x6, hx6, hb_2⟩ := bind_some hb_2
    refine qp (p_call Fun_24 rfl (fun w1 hw => m_i_PosCount_ok hw.fro N p0 ph0_0 ph0_1 ph0_2 hx6)) rfl <| WQ.yes rfl rfl <| qq (q_geq rfl rfl) rfl <| WQ.yes rfl rfl <| qq (q_bne Bo_4 rfl rfl) rfl <| WQ.q (q_pick0 rfl rfl) rfl rfl rfl ?_
    cases hb_2
    exact WQ.keep (by exact ⟨rfl, rfl, rfl, rfl, rfl, trivial⟩) K
  refine WQ.nil ?_
  refine WT.cond rfl (fun c5 => ?_) (fun c5 => ?_)
  ·replace h := ite_t h c5
   refine sr <| lq (q_assign rfl) rfl <| WL.nil ?_
   refine WT.ret Tryz.func72 (resOk.one rfl) (fun w1 hw => ?_)
   subst hb0
   cases h
   exact post_of_St hw
  replace h := ite_f h c5
  refine WT.skip <| WT.inBlock <| WT.region <| lq (q_add rfl rfl) rfl <| lq (q_move rfl) rfl <| WL.nil ?_
  refine WT.inLoop (WT.mono (l' := [(1, .pointer (some ⟨b_1, 0, none⟩)), (17, pv0_0), (18, .int .i64 (p0.Pats.length : Int)), (19, .int .i64 (IntKind.i64.wrap (s1 + 1)))]) (S' := St w0 Φ [(b_1, .cells #[.string p0.Name, .int .i64 p0.Sal, pv0_0, pv0_1, pv0_2] 49 (0, 0))] []) ⟨rfl, rfl, rfl, rfl, trivial⟩ (fun w1 hw => (hw.sel (js := []) rfl).selO (js := [1]) rfl) ?_)
  exact ih1 (IntKind.i64.wrap (s1 + 1)) h
 replace h := ite_f h c3
 refine WT.exit rfl <| sr <| lq (q_assign rfl) rfl <| WL.nil ?_
 refine WT.ret Tryz.func72 (resOk.one rfl) (fun w1 hw => ?_)
 subst hb0
 cases h
 exact post_of_St hw
theorem m_i_isTerm_ok {Φ : Hp} {w : World} (hΦ : In Φ w) (N : Nat) (p0 : TArg)   {r : Bool} (h : m_i_isTerm N p0 = some r) :
  Calls Tryz.prog 141 [.agg [.int .i64 p0.K, .string p0.S, .int .i64 p0.V.K, .int .i64 p0.V.N, .string p0.V.S].toArray].toArray w (Post (.bool r) w) := by
 refine enter Tryz.func141 rfl Tryz.ntmps141 rfl (St.start0 hΦ) ?_
 unfold m_i_isTerm at h
 refine WT.seq <| WT.region ?_
 refine ln (n_box (C := #[.int .i64 p0.K, .string p0.S, .int .i64 p0.V.K, .int .i64 p0.V.N, .string p0.V.S]) rfl rfl) rfl (fun b_1 => ?_)
 refine lq (q_assign rfl) rfl <| WL.nil <| sr <| lq (q_fieldAddr Fld_126_0 rfl) rfl <| lq (q_load1 T1_3 rfl (fun w1 hw => hw.rgO (i := 0) rfl 0 1 [.int .i64 p0.K] rfl)) rfl <| lq (q_neq rfl rfl) rfl <| lq (q_move rfl) rfl ?_
 obtain ⟨b1, hb_1, h⟩ := bind_some h
 refine WL.cutN 3 [(9, .bool b1), (2, .bool false)] ?_ (fun K => ?_)
 rotate_left
 ·refine WL.split (d := 6) rfl (fun c1 => ?_) (fun c1 => ?_)
  ·replace hb_1 := ite_t hb_1 c1
   refine WL.yes rfl rfl <| lq (q_loadN Tn_126 rfl (fun w1 hw => hw.rgO (i := 0) rfl 0 5 [.int .i64 p0.K, .string p0.S, .int .i64 p0.V.K, .int .i64 p0.V.N, .string p0.V.S] rfl) rfl) rfl <| WL.yes rfl rfl ?_
   obtain ⟨x1, hx1, hb_1⟩ := bind_some hb_1
   refine lp (p_call Fun_197 rfl (fun w1 hw => m_i_ArgOk_ok hw.fro N p0 hx1)) rfl <| WL.q (q_pick1 rfl rfl) rfl rfl rfl ?_
   cases hb_1
   exact WL.keep (by exact ⟨rfl, rfl, trivial⟩) K
  ·replace hb_1 := ite_f hb_1 c1
   refine WL.no rfl rfl rfl rfl <| WL.no rfl rfl rfl rfl <| WL.q (q_pick0 rfl rfl) rfl rfl rfl ?_
   cases hb_1
   exact WL.keep (by exact ⟨rfl, rfl, trivial⟩) K
 refine lq (q_assign rfl) rfl <| WL.nil ?_
 refine WT.ret Tryz.func141 (resOk.one rfl) (fun w1 hw => ?_)
 cases h
 exact post_of_St hw
theorem m_i_CondOk_ok {Φ : Hp} {w : World} (hΦ : In Φ w) (N : Nat) (p0 : TCond)   {r : Bool} (h : m_i_CondOk N p0 = some r) :
  Calls Tryz.prog 73 [.agg [.int .i64 p0.Op, .int .i64 p0.L.K, .string p0.L.S, .int .i64 p0.L.V.K, .int .i64 p0.L.V.N, .string p0.L.V.S, .int .i64 p0.R.K, .string p0.R.S, .int .i64 p0.R.V.K, .int .i64 p0.R.V.N, .string p0.R.V.S].toArray].toArray w (Post (.bool r) w) := by
 refine enter Tryz.func73 rfl Tryz.ntmps73 rfl (St.start0 hΦ) ?_
 unfold m_i_CondOk at h
 refine WT.seq <| WT.region ?_
 refine ln (n_box (C := #[.int .i64 p0.Op, .int .i64 p0.L.K, .string p0.L.S, .int .i64 p0.L.V.K, .int .i64 p0.L.V.N, .string p0.L.V.S, .int .i64 p0.R.K, .string p0.R.S, .int .i64 p0.R.V.K, .int .i64 p0.R.V.N, .string p0.R.V.S]) rfl rfl) rfl (fun b_1 => ?_)
 refine lq (q_assign rfl) rfl <| WL.nil <| sr <| lq (q_fieldAddr Fld_128_0 rfl) rfl <| lq (q_load1 T1_3 rfl (fun w1 hw => hw.rgO (i := 0) rfl 0 1 [.int .i64 p0.Op] rfl)) rfl ?_
 obtain ⟨x1, hx1, h⟩ := bind_some h
 refine lp (p_call Fun_71 rfl (fun w1 hw => m_i_inRange_ok hw.fro N p0.Op 1 3 hx1)) rfl <| lq (q_move rfl) rfl ?_
 obtain ⟨b1, hb_1, h⟩ := bind_some h
 refine WL.cutN 4 [(10, .bool b1), (1, .pointer (some ⟨b_1, 0, none⟩)), (2, .bool false)] ?_ (fun K => ?_)
 rotate_left
 ·refine WL.split (d := 6) rfl (fun c1 => ?_) (fun c1 => ?_)
  ·replace hb_1 := ite_t hb_1 c1
   refine WL.yes rfl rfl <| lq (q_fieldAddr Fld_128_1 rfl) rfl <| WL.yes rfl rfl <| lq (q_loadN Tn_126 rfl (fun w1 hw => hw.rgO (i := 0) rfl 1 5 [.int .i64 p0.L.K, .string p0.L.S, .int .i64 p0.L.V.K, .int .i64 p0.L.V.N, .string p0.L.V.S] rfl) rfl) rfl <| WL.yes rfl rfl ?_
   obtain ⟨x2, hx2, hb_1⟩ := bind_some hb_1
   refine lp (p_call Fun_141 rfl (fun w1 hw => m_i_isTerm_ok hw.fro N p0.L hx2)) rfl <| WL.q (q_pick1 rfl rfl) rfl rfl rfl ?_
   cases hb_1
   exact WL.keep (by exact ⟨rfl, rfl, rfl, trivial⟩) K
  ·replace hb_1 := ite_f hb_1 c1
   refine WL.no rfl rfl rfl rfl <| WL.no rfl rfl rfl rfl <| WL.no rfl rfl rfl rfl <| WL.q (q_pick0 rfl rfl) rfl rfl rfl ?_
   cases hb_1
   exact WL.keep (by exact ⟨rfl, rfl, rfl, trivial⟩) K
 refine lq (q_move rfl) rfl ?_
 obtain ⟨b2, hb_2, h⟩ := bind_some h
 refine WL.cutN 4 [(15, .bool b2), (2, .bool false)] ?_ (fun K => ?_)
 rotate_left
 ·refine WL.split (d := 11) rfl (fun c2 => ?_) (fun c2 => ?_)
  ·replace hb_2 := ite_t hb_2 c2
   refine WL.yes rfl rfl <| lq (q_fieldAddr Fld_128_2 rfl) rfl <| WL.yes rfl rfl <| lq (q_loadN Tn_126 rfl (fun w1 hw => hw.rgO (i := 0) rfl 6 5 [.int .i64 p0.R.K, .string p0.R.S, .int .i64 p0.R.V.K, .int .i64 p0.R.V.N, .string p0.R.V.S] rfl) rfl) rfl <| WL.yes rfl rfl ?_
   obtain ⟨x3, hx3, hb_2⟩ := bind_some hb_2
   refine lp (p_call Fun_141 rfl (fun w1 hw => m_i_isTerm_ok hw.fro N p0.R hx3)) rfl <| WL.q (q_pick1 rfl rfl) rfl rfl rfl ?_
   cases hb_2
   exact WL.keep (by exact ⟨rfl, rfl, trivial⟩) K
  ·replace hb_2 := ite_f hb_2 c2
   refine WL.no rfl rfl rfl rfl <| WL.no rfl rfl rfl rfl <| WL.no rfl rfl rfl rfl <| WL.q (q_pick0 rfl rfl) rfl rfl rfl ?_
   cases hb_2
   exact WL.keep (by exact ⟨rfl, rfl, trivial⟩) K
 refine lq (q_assign rfl) rfl <| WL.nil ?_
 refine WT.ret Tryz.func73 (resOk.one rfl) (fun w1 hw => ?_)
 cases h
 exact post_of_St hw
theorem m_i_ExprOk_ok {Φ : Hp} {w : World} (hΦ : In Φ w) (N : Nat) (p0 : TExpr)   {r : Bool} (h : m_i_ExprOk N p0 = some r) :
  Calls Tryz.prog 198 [.agg [.string p0.Op, .int .i64 p0.L.K, .string p0.L.S, .int .i64 p0.L.V.K, .int .i64 p0.L.V.N, .string p0.L.V.S, .int .i64 p0.R.K, .string p0.R.S, .int .i64 p0.R.V.K, .int .i64 p0.R.V.N, .string p0.R.V.S].toArray].toArray w (Post (.bool r) w) := by
 refine enter Tryz.func198 rfl Tryz.ntmps198 rfl (St.start0 hΦ) ?_
 generalize hb0 : (⟨w, [], Φ⟩ : Base) = w0
 unfold m_i_ExprOk at h
 refine WT.seq <| WT.region ?_
 refine ln (n_box (C := #[.string p0.Op, .int .i64 p0.L.K, .string p0.L.S, .int .i64 p0.L.V.K, .int .i64 p0.L.V.N, .string p0.L.V.S, .int .i64 p0.R.K, .string p0.R.S, .int .i64 p0.R.V.K, .int .i64 p0.R.V.N, .string p0.R.V.S]) rfl rfl) rfl (fun b_1 => ?_)
 refine lq (q_assign rfl) rfl <| WL.nil <| WT.seq <| sr <| lq (q_fieldAddr Fld_175_0 rfl) rfl <| lq (q_load1 T1_9 rfl (fun w1 hw => hw.rgO (i := 0) rfl 0 1 [.string p0.Op] rfl)) rfl <| WL.nil <| WT.block <| sr <| lq (q_seq rfl rfl) rfl <| lq (q_assign rfl) rfl <| WL.nil ?_
 refine WT.cond rfl (fun c1 => ?_) (fun c1 => ?_)
 ·replace h := ite_t h c1
  refine sr <| lq (q_fieldAddr Fld_175_1 rfl) rfl <| lq (q_loadN Tn_126 rfl (fun w1 hw => hw.rgO (i := 0) rfl 1 5 [.int .i64 p0.L.K, .string p0.L.S, .int .i64 p0.L.V.K, .int .i64 p0.L.V.N, .string p0.L.V.S] rfl) rfl) rfl ?_
  obtain ⟨x1, hx1, h⟩ := bind_some h
  refine lp (p_call Fun_141 rfl (fun w1 hw => m_i_isTerm_ok hw.fro N p0.L hx1)) rfl <| lq (q_move rfl) rfl ?_
  obtain ⟨b1, hb_1, h⟩ := bind_some h
  refine WL.cutN 5 [(15, .bool b1), (2, .bool false)] ?_ (fun K => ?_)
  rotate_left
  ·refine WL.split (d := 10) rfl (fun c2 => ?_) (fun c2 => ?_)
   ·replace hb_1 := ite_t hb_1 c2
    refine WL.yes rfl rfl <| lq (q_fieldAddr Fld_175_2 rfl) rfl <| WL.yes rfl rfl <| lq (q_loadN Tn_126 rfl (fun w1 hw => hw.rgO (i := 0) rfl 6 5 [.int .i64 p0.R.K, .string p0.R.S, .int .i64 p0.R.V.K, .int .i64 p0.R.V.N, .string p0.R.V.S] rfl) rfl) rfl <| WL.yes rfl rfl <| lq (q_build (vs := []) (C := #[.int .i64 0, .string eS, .int .i64 0, .int .i64 0, .string eS]) Pl_126 Zr_126 rfl (fill_nil)) rfl ?_
    refine WL.yes rfl rfl <| lq (q_eqA EqT_126 rfl rfl rfl (r := eqT_TArg p0.R (⟨0, eS, (⟨0, 0, eS⟩ : TVal)⟩ : TArg)) rfl) rfl <| WL.q (q_pick1 rfl rfl) rfl rfl rfl ?_
    cases hb_1
    exact WL.keep (by exact ⟨rfl, rfl, trivial⟩) K
   ·replace hb_1 := ite_f hb_1 c2
    refine WL.no rfl rfl rfl rfl <| WL.no rfl rfl rfl rfl <| WL.no rfl rfl rfl rfl <| WL.no rfl rfl rfl rfl <| WL.q (q_pick0 rfl rfl) rfl rfl rfl ?_
    cases hb_1
    exact WL.keep (by exact ⟨rfl, rfl, trivial⟩) K
  refine lq (q_assign rfl) rfl <| WL.nil ?_
  refine WT.ret Tryz.func198 (resOk.one rfl) (fun w1 hw => ?_)
  subst hb0
  cases h
  exact post_of_St hw
 replace h := ite_f h c1
 refine WT.seq <| sr <| lq (q_seq rfl rfl) rfl <| lq (q_assign rfl) rfl <| WL.nil ?_
 refine cut (σ := Bool) (fun s => [(1, .pointer (some ⟨b_1, 0, none⟩)), (16, .bool s)]) (fun s => St w0 Φ [(b_1, .cells #[.string p0.Op, .int .i64 p0.L.K, .string p0.L.S, .int .i64 p0.L.V.K, .int .i64 p0.L.V.N, .string p0.L.V.S, .int .i64 p0.R.K, .string p0.R.S, .int .i64 p0.R.V.K, .int .i64 p0.R.V.N, .string p0.R.V.S] 175 (0, 0))] []) (fun s => m_i_ExprOk_j1 N p0 s = some r) (fun s hm => ?_) (fun K => ?_)
 ·clear h
  revert hm; revert s; intro s1 hm
  have h : m_i_ExprOk_j1 N p0 s1 = some r := hm
  show WT _ _ [(1, .pointer (some ⟨b_1, 0, none⟩)), (16, .bool s1)] (St w0 Φ [(b_1, .cells #[.string p0.Op, .int .i64 p0.L.K, .string p0.L.S, .int .i64 p0.L.V.K, .int .i64 p0.L.V.N, .string p0.L.V.S, .int .i64 p0.R.K, .string p0.R.S, .int .i64 p0.R.V.K, .int .i64 p0.R.V.N, .string p0.R.V.S] 175 (0, 0))] [])
  unfold m_i_ExprOk_j1 at h
  refine WT.cond rfl (fun c3 => ?_) (fun c3 => ?_)
  ·replace h := ite_t h c3
   refine sr <| lq (q_fieldAddr Fld_175_1 rfl) rfl <| lq (q_loadN Tn_126 rfl (fun w1 hw => hw.rgO (i := 0) rfl 1 5 [.int .i64 p0.L.K, .string p0.L.S, .int .i64 p0.L.V.K, .int .i64 p0.L.V.N, .string p0.L.V.S] rfl) rfl) rfl ?_
   obtain ⟨x2, hx2, h⟩ := bind_some h
   refine lp (p_call Fun_141 rfl (fun w1 hw => m_i_isTerm_ok hw.fro N p0.L hx2)) rfl <| lq (q_move rfl) rfl ?_
   obtain ⟨b2, hb_2, h⟩ := bind_some h
   refine WL.cutN 4 [(26, .bool b2)] ?_ (fun K => ?_)
   rotate_left
   ·refine WL.split (d := 22) rfl (fun c4 => ?_) (fun c4 => ?_)
    ·replace hb_2 := ite_t hb_2 c4
     refine WL.yes rfl rfl <| lq (q_fieldAddr Fld_175_2 rfl) rfl <| WL.yes rfl rfl <| lq (q_loadN Tn_126 rfl (fun w1 hw => hw.rgO (i := 0) rfl 6 5 [.int .i64 p0.R.K, .string p0.R.S, .int .i64 p0.R.V.K, .int .i64 p0.R.V.N, .string p0.R.V.S] rfl) rfl) rfl <| WL.yes rfl rfl ?_
     obtain ⟨x3, hx3, hb_2⟩ := bind_some hb_2
     refine lp (p_call Fun_141 rfl (fun w1 hw => m_i_isTerm_ok hw.fro N p0.R hx3)) rfl <| WL.q (q_pick1 rfl rfl) rfl rfl rfl ?_
     cases hb_2
     exact WL.keep (by exact ⟨rfl, trivial⟩) K
    ·replace hb_2 := ite_f hb_2 c4
     refine WL.no rfl rfl rfl rfl <| WL.no rfl rfl rfl rfl <| WL.no rfl rfl rfl rfl <| WL.q (q_pick0 rfl rfl) rfl rfl rfl ?_
     cases hb_2
     exact WL.keep (by exact ⟨rfl, trivial⟩) K
   refine lq (q_assign rfl) rfl <| WL.nil ?_
   refine WT.ret Tryz.func198 (resOk.one rfl) (fun w1 hw => ?_)
   subst hb0
   cases h
   exact post_of_St hw
  replace h := ite_f h c3
  refine WT.skip <| WT.inBlock <| sr <| lq (q_assign rfl) rfl <| WL.nil ?_
  refine WT.ret Tryz.func198 (resOk.one rfl) (fun w1 hw => ?_)
  subst hb0
  cases h
  exact post_of_St hw
 refine WT.cond rfl (fun c5 => ?_) (fun c5 => ?_)
 ·replace h := ite_t h c5
  refine WT.skip <| WT.mono (l' := [(1, .pointer (some ⟨b_1, 0, none⟩)), (16, .bool (seq p0.Op (⟨#[43]⟩ : ByteArray)))]) (S' := St w0 Φ [(b_1, .cells #[.string p0.Op, .int .i64 p0.L.K, .string p0.L.S, .int .i64 p0.L.V.K, .int .i64 p0.L.V.N, .string p0.L.V.S, .int .i64 p0.R.K, .string p0.R.S, .int .i64 p0.R.V.K, .int .i64 p0.R.V.N, .string p0.R.V.S] 175 (0, 0))] []) ⟨rfl, rfl, trivial⟩ (fun w1 hw => (hw.sel (js := []) rfl).selO (js := [0]) rfl) ?_
  exact K (seq p0.Op (⟨#[43]⟩ : ByteArray)) h
 replace h := ite_f h c5
 refine WT.region <| lq (q_seq rfl rfl) rfl <| lq (q_assign rfl) rfl <| WL.nil <| WT.mono (l' := [(1, .pointer (some ⟨b_1, 0, none⟩)), (16, .bool (seq p0.Op (⟨#[45]⟩ : ByteArray)))]) (S' := St w0 Φ [(b_1, .cells #[.string p0.Op, .int .i64 p0.L.K, .string p0.L.S, .int .i64 p0.L.V.K, .int .i64 p0.L.V.N, .string p0.L.V.S, .int .i64 p0.R.K, .string p0.R.S, .int .i64 p0.R.V.K, .int .i64 p0.R.V.N, .string p0.R.V.S] 175 (0, 0))] []) ⟨rfl, rfl, trivial⟩ (fun w1 hw => (hw.sel (js := []) rfl).selO (js := [0]) rfl) ?_
 exact K (seq p0.Op (⟨#[45]⟩ : ByteArray)) h
theorem m_i_argsOk_ok {Φ : Hp} {w : World} (hΦ : In Φ w) (N : Nat) (p0 : TAct) {pv0_0 : Value} {pG0_0 : List Nat} (ph0_0 : RSl RTExpr 11 Φ pG0_0 pv0_0 p0.Args) {r : Bool} (h : m_i_argsOk N p0 = some r) :
  Calls Tryz.prog 142 [.agg [.int .i64 p0.Kind, .string p0.Name, pv0_0, .int .i64 p0.N, .string p0.Undo].toArray].toArray w (Post (.bool r) w) := by
 refine enter Tryz.func142 rfl Tryz.ntmps142 rfl (St.start0 hΦ) ?_
 generalize hb0 : (⟨w, [], Φ⟩ : Base) = w0
 unfold m_i_argsOk at h
 refine WT.seq <| WT.region ?_
 refine ln (n_box (C := #[.int .i64 p0.Kind, .string p0.Name, pv0_0, .int .i64 p0.N, .string p0.Undo]) rfl rfl) rfl (fun b_1 => ?_)
 refine lq (q_assign rfl) rfl <| WL.nil <| WT.seq <| sr <| lq (q_fieldAddr Fld_135_1 rfl) rfl <| lq (q_load1 T1_9 rfl (fun w1 hw => hw.rgO (i := 0) rfl 1 1 [.string p0.Name] rfl)) rfl ?_
 obtain ⟨x1, hx1, h⟩ := bind_some h
 refine lp (p_call Fun_70 rfl (fun w1 hw => m_i_NameOk_ok hw.fro N p0.Name hx1)) rfl <| lq (q_not rfl) rfl <| lq (q_move rfl) rfl ?_
 obtain ⟨b1, hb_1, h⟩ := bind_some h
 refine WL.cutN 5 [(14, .bool b1), (1, .pointer (some ⟨b_1, 0, none⟩))] ?_ (fun K => ?_)
 rotate_left
 ·refine WL.split (d := 9) rfl (fun c1 => ?_) (fun c1 => ?_)
  ·replace hb_1 := ite_t hb_1 c1
   refine WL.no rfl rfl rfl rfl <| WL.no rfl rfl rfl rfl <| WL.no rfl rfl rfl rfl <| WL.no rfl rfl rfl rfl <| WL.q (q_pick1 rfl rfl) rfl rfl rfl ?_
   cases hb_1
   exact WL.keep (by exact ⟨rfl, rfl, trivial⟩) K
  ·replace hb_1 := ite_f hb_1 c1
   refine WL.yes rfl rfl <| lq (q_fieldAddr Fld_135_2 rfl) rfl <| WL.yes rfl rfl <| lq (q_load1 T1_133 rfl (fun w1 hw => hw.rgO (i := 0) rfl 2 1 [pv0_0] rfl)) rfl <| WL.yes rfl rfl <| lq (q_lenR Sl_133 rfl rfl ph0_0) rfl <| WL.yes rfl rfl <| lq (q_gtr rfl rfl) rfl <| WL.q (q_pick0 rfl rfl) rfl rfl rfl ?_
   cases hb_1
   exact WL.keep (by exact ⟨rfl, rfl, trivial⟩) K
 refine WL.nil ?_
 refine WT.cond rfl (fun c2 => ?_) (fun c2 => ?_)
 ·replace h := ite_t h c2
  refine sr <| lq (q_assign rfl) rfl <| WL.nil ?_
  refine WT.ret Tryz.func142 (resOk.one rfl) (fun w1 hw => ?_)
  subst hb0
  cases h
  exact post_of_St hw
 replace h := ite_f h c2
 refine WT.skip <| WT.seq <| sr <| lq (q_fieldAddr Fld_135_2 rfl) rfl <| lq (q_load1 T1_133 rfl (fun w1 hw => hw.rgO (i := 0) rfl 2 1 [pv0_0] rfl)) rfl <| lq (q_lenR Sl_133 rfl rfl ph0_0) rfl <| lq (q_move rfl) rfl <| WL.nil <| WT.block <| WT.loop <| WT.mono (l' := [(16, pv0_0), (17, .int .i64 (p0.Args.length : Int)), (18, .int .i64 0)]) (S' := St w0 Φ [] []) ⟨rfl, rfl, rfl, trivial⟩ (fun w1 hw => (hw.sel (js := []) rfl).selO (js := []) rfl) ?_
 refine loop_ind (σ := Int) (fun s => [(16, pv0_0), (17, .int .i64 (p0.Args.length : Int)), (18, .int .i64 s)]) (fun s => St w0 Φ [] []) (fun m s => m_i_argsOk_l1 N p0 m s = some r) (fun s hm => none_ne (show (none : Option (Bool)) = some r from hm)) (fun n1 ih1 s hm => ?_) N (0) h
 revert hm; revert s; intro s1 hm
 have h : m_i_argsOk_l1 N p0 (n1 + 1) s1 = some r := hm
 show WT _ _ [(16, pv0_0), (17, .int .i64 (p0.Args.length : Int)), (18, .int .i64 s1)] (St w0 Φ [] [])
 unfold m_i_argsOk_l1 at h
 refine sr <| lq (q_lss rfl rfl) rfl <| WL.nil <| WT.seq ?_
 refine WT.cond rfl (fun c3 => ?_) (fun c3 => ?_)
 ·replace h := ite_t h c3
  refine WT.skip <| WT.seq <| WT.block <| WT.seq <| WT.region ?_
  obtain ⟨x2, hx2, h⟩ := bind_some h
  obtain ⟨cs1, F1, -, g1, hb1, hs1, r1⟩ := ph0_0.el (idx_some hx2).2.2
  obtain ⟨rfl, -⟩ := r1
  refine lq (q_indexAddr Sl_133 rfl rfl ph0_0 hx2) rfl <| lq (q_loadN Tn_175 rfl (fun w1 hw => (g1.of_eq 0 11 rfl rfl : rg _ _ _ [.string x2.Op, .int .i64 x2.L.K, .string x2.L.S, .int .i64 x2.L.V.K, .int .i64 x2.L.V.N, .string x2.L.V.S, .int .i64 x2.R.K, .string x2.R.S, .int .i64 x2.R.V.K, .int .i64 x2.R.V.N, .string x2.R.V.S]).rangeAt hw.fro) rfl) rfl ?_
  refine ln (n_alloc (C := #[.string eS, .int .i64 0, .string eS, .int .i64 0, .int .i64 0, .string eS, .int .i64 0, .string eS, .int .i64 0, .int .i64 0, .string eS]) Zr_175 rfl) rfl (fun b_2 => ?_)
  refine ls (s_store (i := 0) (vs := [.string x2.Op, .int .i64 x2.L.K, .string x2.L.S, .int .i64 x2.L.V.K, .int .i64 x2.L.V.N, .string x2.L.V.S, .int .i64 x2.R.K, .string x2.R.S, .int .i64 x2.R.V.K, .int .i64 x2.R.V.N, .string x2.R.V.S]) (C' := [.string x2.Op, .int .i64 x2.L.K, .string x2.L.S, .int .i64 x2.L.V.K, .int .i64 x2.L.V.N, .string x2.L.V.S, .int .i64 x2.R.K, .string x2.R.S, .int .i64 x2.R.V.K, .int .i64 x2.R.V.N, .string x2.R.V.S]) (O' := [(b_2, .cells #[.string x2.Op, .int .i64 x2.L.K, .string x2.L.S, .int .i64 x2.L.V.K, .int .i64 x2.L.V.N, .string x2.L.V.S, .int .i64 x2.R.K, .string x2.R.S, .int .i64 x2.R.V.K, .int .i64 x2.R.V.N, .string x2.R.V.S] 175 (0, 0))]) Sz_175 rfl rfl rfl rfl rfl rfl ⟨rfl, rfl, rfl, rfl, rfl, rfl, rfl, rfl, rfl, rfl, rfl, trivial⟩ rfl rfl) rfl ?_
  refine WL.nil <| sr <| lq (q_loadN Tn_175 rfl (fun w1 hw => hw.rgO (i := 0) rfl 0 11 [.string x2.Op, .int .i64 x2.L.K, .string x2.L.S, .int .i64 x2.L.V.K, .int .i64 x2.L.V.N, .string x2.L.V.S, .int .i64 x2.R.K, .string x2.R.S, .int .i64 x2.R.V.K, .int .i64 x2.R.V.N, .string x2.R.V.S] rfl) rfl) rfl ?_
  obtain ⟨x3, hx3, h⟩ := bind_some h
  refine lp (p_call Fun_198 rfl (fun w1 hw => m_i_ExprOk_ok hw.fro N x2 hx3)) rfl <| lq (q_not rfl) rfl <| WL.nil ?_
  refine WT.cond rfl (fun c4 => ?_) (fun c4 => ?_)
  ·replace h := ite_t h c4
   refine sr <| lq (q_assign rfl) rfl <| WL.nil ?_
   refine WT.ret Tryz.func142 (resOk.one rfl) (fun w1 hw => ?_)
   subst hb0
   cases h
   exact post_of_St hw
  replace h := ite_f h c4
  refine WT.skip <| WT.inBlock <| WT.region <| lq (q_add rfl rfl) rfl <| lq (q_move rfl) rfl <| WL.nil ?_
  refine WT.inLoop (WT.mono (l' := [(16, pv0_0), (17, .int .i64 (p0.Args.length : Int)), (18, .int .i64 (IntKind.i64.wrap (s1 + 1)))]) (S' := St w0 Φ [] []) ⟨rfl, rfl, rfl, trivial⟩ (fun w1 hw => (hw.sel (js := []) rfl).selO (js := []) rfl) ?_)
  exact ih1 (IntKind.i64.wrap (s1 + 1)) h
 replace h := ite_f h c3
 refine WT.exit rfl <| sr <| lq (q_assign rfl) rfl <| WL.nil ?_
 refine WT.ret Tryz.func142 (resOk.one rfl) (fun w1 hw => ?_)
 subst hb0
 cases h
 exact post_of_St hw
theorem m_i_isUndo_ok {Φ : Hp} {w : World} (hΦ : In Φ w) (N : Nat) (p0 : ByteArray)   {r : Bool} (h : m_i_isUndo N p0 = some r) :
  Calls Tryz.prog 143 [.string p0].toArray w (Post (.bool r) w) := by
 refine enter Tryz.func143 rfl Tryz.ntmps143 rfl (St.start0 hΦ) ?_
 unfold m_i_isUndo at h
 refine sr <| lq (q_assign rfl) rfl <| WL.nil <| sr <| lq (q_move rfl) rfl <| lq (q_seq rfl rfl) rfl <| lq (q_move rfl) rfl ?_
 obtain ⟨b1, hb_1, h⟩ := bind_some h
 refine WL.cutN 3 [(8, .bool b1), (2, .bool false)] ?_ (fun K => ?_)
 rotate_left
 ·refine WL.split (d := 5) rfl (fun c1 => ?_) (fun c1 => ?_)
  ·replace hb_1 := ite_t hb_1 c1
   refine WL.no rfl rfl rfl rfl <| WL.no rfl rfl rfl rfl <| WL.q (q_pick1 rfl rfl) rfl rfl rfl ?_
   cases hb_1
   exact WL.keep (by exact ⟨rfl, rfl, trivial⟩) K
  ·replace hb_1 := ite_f hb_1 c1
   refine WL.yes rfl rfl <| lq (q_move rfl) rfl <| WL.yes rfl rfl ?_
   obtain ⟨x1, hx1, hb_1⟩ := bind_some hb_1
   refine lp (p_call Fun_70 rfl (fun w1 hw => m_i_NameOk_ok hw.fro N p0 hx1)) rfl <| WL.q (q_pick0 rfl rfl) rfl rfl rfl ?_
   cases hb_1
   exact WL.keep (by exact ⟨rfl, rfl, trivial⟩) K
 refine lq (q_assign rfl) rfl <| WL.nil ?_
 refine WT.ret Tryz.func143 (resOk.one rfl) (fun w1 hw => ?_)
 cases h
 exact post_of_St hw
theorem m_i_ActOk_ok {Φ : Hp} {w : World} (hΦ : In Φ w) (N : Nat) (p0 : TAct) {pv0_0 : Value} {pG0_0 : List Nat} (ph0_0 : RSl RTExpr 11 Φ pG0_0 pv0_0 p0.Args) {r : Bool} (h : m_i_ActOk N p0 = some r) :
  Calls Tryz.prog 74 [.agg [.int .i64 p0.Kind, .string p0.Name, pv0_0, .int .i64 p0.N, .string p0.Undo].toArray].toArray w (Post (.bool r) w) := by
 refine enter Tryz.func74 rfl Tryz.ntmps74 rfl (St.start0 hΦ) ?_
 generalize hb0 : (⟨w, [], Φ⟩ : Base) = w0
 unfold m_i_ActOk at h
 refine WT.seq <| WT.region ?_
 refine ln (n_box (C := #[.int .i64 p0.Kind, .string p0.Name, pv0_0, .int .i64 p0.N, .string p0.Undo]) rfl rfl) rfl (fun b_1 => ?_)
 refine lq (q_assign rfl) rfl <| WL.nil <| sr <| lq (q_fieldAddr Fld_135_1 rfl) rfl <| lq (q_load1 T1_9 rfl (fun w1 hw => hw.rgO (i := 0) rfl 1 1 [.string p0.Name] rfl)) rfl <| lq (q_seq rfl rfl) rfl <| lq (q_move rfl) rfl ?_
 obtain ⟨b1, hb_1, h⟩ := bind_some h
 refine WL.cutN 5 [(12, .bool b1), (1, .pointer (some ⟨b_1, 0, none⟩))] ?_ (fun K => ?_)
 rotate_left
 ·refine WL.split (d := 7) rfl (fun c1 => ?_) (fun c1 => ?_)
  ·replace hb_1 := ite_t hb_1 c1
   refine WL.yes rfl rfl <| lq (q_fieldAddr Fld_135_2 rfl) rfl <| WL.yes rfl rfl <| lq (q_load1 T1_133 rfl (fun w1 hw => hw.rgO (i := 0) rfl 2 1 [pv0_0] rfl)) rfl <| WL.yes rfl rfl <| lq (q_lenR Sl_133 rfl rfl ph0_0) rfl <| WL.yes rfl rfl <| lq (q_eql rfl rfl) rfl <| WL.q (q_pick1 rfl rfl) rfl rfl rfl ?_
   cases hb_1
   exact WL.keep (by exact ⟨rfl, rfl, trivial⟩) K
  ·replace hb_1 := ite_f hb_1 c1
   refine WL.no rfl rfl rfl rfl <| WL.no rfl rfl rfl rfl <| WL.no rfl rfl rfl rfl <| WL.no rfl rfl rfl rfl <| WL.q (q_pick0 rfl rfl) rfl rfl rfl ?_
   cases hb_1
   exact WL.keep (by exact ⟨rfl, rfl, trivial⟩) K
 refine lq (q_assign rfl) rfl <| WL.nil <| WT.seq <| sr <| lq (q_fieldAddr Fld_135_0 rfl) rfl <| lq (q_load1 T1_3 rfl (fun w1 hw => hw.rgO (i := 0) rfl 0 1 [.int .i64 p0.Kind] rfl)) rfl <| WL.nil <| WT.block <| sr <| lq (q_eql rfl rfl) rfl <| lq (q_assign rfl) rfl <| WL.nil ?_
 refine WT.cond rfl (fun c2 => ?_) (fun c2 => ?_)
 ·replace h := ite_t h c2
  refine sr <| lq (q_loadN Tn_135 rfl (fun w1 hw => hw.rgO (i := 0) rfl 0 5 [.int .i64 p0.Kind, .string p0.Name, pv0_0, .int .i64 p0.N, .string p0.Undo] rfl) rfl) rfl ?_
  obtain ⟨x1, hx1, h⟩ := bind_some h
  refine lp (p_call Fun_142 rfl (fun w1 hw => m_i_argsOk_ok hw.fro N p0 ph0_0 hx1)) rfl <| lq (q_move rfl) rfl ?_
  obtain ⟨b2, hb_2, h⟩ := bind_some h
  refine WL.cutN 4 [(23, .bool b2), (1, .pointer (some ⟨b_1, 0, none⟩))] ?_ (fun K => ?_)
  rotate_left
  ·refine WL.split (d := 19) rfl (fun c3 => ?_) (fun c3 => ?_)
   ·replace hb_2 := ite_t hb_2 c3
    refine WL.yes rfl rfl <| lq (q_fieldAddr Fld_135_3 rfl) rfl <| WL.yes rfl rfl <| lq (q_load1 T1_3 rfl (fun w1 hw => hw.rgO (i := 0) rfl 3 1 [.int .i64 p0.N] rfl)) rfl <| WL.yes rfl rfl <| lq (q_eql rfl rfl) rfl <| WL.q (q_pick1 rfl rfl) rfl rfl rfl ?_
    cases hb_2
    exact WL.keep (by exact ⟨rfl, rfl, trivial⟩) K
   ·replace hb_2 := ite_f hb_2 c3
    refine WL.no rfl rfl rfl rfl <| WL.no rfl rfl rfl rfl <| WL.no rfl rfl rfl rfl <| WL.q (q_pick0 rfl rfl) rfl rfl rfl ?_
    cases hb_2
    exact WL.keep (by exact ⟨rfl, rfl, trivial⟩) K
  refine lq (q_move rfl) rfl ?_
  obtain ⟨b3, hb_3, h⟩ := bind_some h
  refine WL.cutN 4 [(28, .bool b3)] ?_ (fun K => ?_)
  rotate_left
  ·refine WL.split (d := 24) rfl (fun c4 => ?_) (fun c4 => ?_)
   ·replace hb_3 := ite_t hb_3 c4
    refine WL.yes rfl rfl <| lq (q_fieldAddr Fld_135_4 rfl) rfl <| WL.yes rfl rfl <| lq (q_load1 T1_9 rfl (fun w1 hw => hw.rgO (i := 0) rfl 4 1 [.string p0.Undo] rfl)) rfl <| WL.yes rfl rfl <| lq (q_seq rfl rfl) rfl <| WL.q (q_pick1 rfl rfl) rfl rfl rfl ?_
    cases hb_3
    exact WL.keep (by exact ⟨rfl, trivial⟩) K
   ·replace hb_3 := ite_f hb_3 c4
    refine WL.no rfl rfl rfl rfl <| WL.no rfl rfl rfl rfl <| WL.no rfl rfl rfl rfl <| WL.q (q_pick0 rfl rfl) rfl rfl rfl ?_
    cases hb_3
    exact WL.keep (by exact ⟨rfl, trivial⟩) K
  refine lq (q_assign rfl) rfl <| WL.nil ?_
  refine WT.ret Tryz.func74 (resOk.one rfl) (fun w1 hw => ?_)
  subst hb0
  cases h
  exact post_of_St hw
 replace h := ite_f h c2
 refine sr <| lq (q_eql rfl rfl) rfl <| lq (q_assign rfl) rfl <| WL.nil ?_
 refine WT.cond rfl (fun c5 => ?_) (fun c5 => ?_)
 ·replace h := ite_t h c5
  refine sr <| lq (q_move rfl) rfl <| lq (q_move rfl) rfl ?_
  obtain ⟨b4, hb_4, h⟩ := bind_some h
  refine WL.cutN 4 [(36, .bool b4), (1, .pointer (some ⟨b_1, 0, none⟩))] ?_ (fun K => ?_)
  rotate_left
  ·refine WL.split (d := 32) rfl (fun c6 => ?_) (fun c6 => ?_)
   ·replace hb_4 := ite_t hb_4 c6
    refine WL.yes rfl rfl <| lq (q_fieldAddr Fld_135_3 rfl) rfl <| WL.yes rfl rfl <| lq (q_load1 T1_3 rfl (fun w1 hw => hw.rgO (i := 0) rfl 3 1 [.int .i64 p0.N] rfl)) rfl <| WL.yes rfl rfl ?_
    obtain ⟨x2, hx2, hb_4⟩ := bind_some hb_4
    refine lp (p_call Fun_71 rfl (fun w1 hw => m_i_inRange_ok hw.fro N p0.N 0 7 hx2)) rfl <| WL.q (q_pick1 rfl rfl) rfl rfl rfl ?_
    cases hb_4
    exact WL.keep (by exact ⟨rfl, rfl, trivial⟩) K
   ·replace hb_4 := ite_f hb_4 c6
    refine WL.no rfl rfl rfl rfl <| WL.no rfl rfl rfl rfl <| WL.no rfl rfl rfl rfl <| WL.q (q_pick0 rfl rfl) rfl rfl rfl ?_
    cases hb_4
    exact WL.keep (by exact ⟨rfl, rfl, trivial⟩) K
  refine lq (q_move rfl) rfl ?_
  obtain ⟨b5, hb_5, h⟩ := bind_some h
  refine WL.cutN 4 [(41, .bool b5)] ?_ (fun K => ?_)
  rotate_left
  ·refine WL.split (d := 37) rfl (fun c7 => ?_) (fun c7 => ?_)
   ·replace hb_5 := ite_t hb_5 c7
    refine WL.yes rfl rfl <| lq (q_fieldAddr Fld_135_4 rfl) rfl <| WL.yes rfl rfl <| lq (q_load1 T1_9 rfl (fun w1 hw => hw.rgO (i := 0) rfl 4 1 [.string p0.Undo] rfl)) rfl <| WL.yes rfl rfl <| lq (q_seq rfl rfl) rfl <| WL.q (q_pick1 rfl rfl) rfl rfl rfl ?_
    cases hb_5
    exact WL.keep (by exact ⟨rfl, trivial⟩) K
   ·replace hb_5 := ite_f hb_5 c7
    refine WL.no rfl rfl rfl rfl <| WL.no rfl rfl rfl rfl <| WL.no rfl rfl rfl rfl <| WL.q (q_pick0 rfl rfl) rfl rfl rfl ?_
    cases hb_5
    exact WL.keep (by exact ⟨rfl, trivial⟩) K
  refine lq (q_assign rfl) rfl <| WL.nil ?_
  refine WT.ret Tryz.func74 (resOk.one rfl) (fun w1 hw => ?_)
  subst hb0
  cases h
  exact post_of_St hw
 replace h := ite_f h c5
 refine sr <| lq (q_eql rfl rfl) rfl <| lq (q_assign rfl) rfl <| WL.nil ?_
 refine WT.cond rfl (fun c8 => ?_) (fun c8 => ?_)
 ·replace h := ite_t h c8
  refine sr <| lq (q_loadN Tn_135 rfl (fun w1 hw => hw.rgO (i := 0) rfl 0 5 [.int .i64 p0.Kind, .string p0.Name, pv0_0, .int .i64 p0.N, .string p0.Undo] rfl) rfl) rfl ?_
  obtain ⟨x3, hx3, h⟩ := bind_some h
  refine lp (p_call Fun_142 rfl (fun w1 hw => m_i_argsOk_ok hw.fro N p0 ph0_0 hx3)) rfl <| lq (q_move rfl) rfl ?_
  obtain ⟨b6, hb_6, h⟩ := bind_some h
  refine WL.cutN 4 [(50, .bool b6), (1, .pointer (some ⟨b_1, 0, none⟩))] ?_ (fun K => ?_)
  rotate_left
  ·refine WL.split (d := 46) rfl (fun c9 => ?_) (fun c9 => ?_)
   ·replace hb_6 := ite_t hb_6 c9
    refine WL.yes rfl rfl <| lq (q_fieldAddr Fld_135_3 rfl) rfl <| WL.yes rfl rfl <| lq (q_load1 T1_3 rfl (fun w1 hw => hw.rgO (i := 0) rfl 3 1 [.int .i64 p0.N] rfl)) rfl <| WL.yes rfl rfl <| lq (q_eql rfl rfl) rfl <| WL.q (q_pick1 rfl rfl) rfl rfl rfl ?_
    cases hb_6
    exact WL.keep (by exact ⟨rfl, rfl, trivial⟩) K
   ·replace hb_6 := ite_f hb_6 c9
    refine WL.no rfl rfl rfl rfl <| WL.no rfl rfl rfl rfl <| WL.no rfl rfl rfl rfl <| WL.q (q_pick0 rfl rfl) rfl rfl rfl ?_
    cases hb_6
    exact WL.keep (by exact ⟨rfl, rfl, trivial⟩) K
  refine lq (q_move rfl) rfl ?_
  obtain ⟨b7, hb_7, h⟩ := bind_some h
  refine WL.cutN 4 [(55, .bool b7)] ?_ (fun K => ?_)
  rotate_left
  ·refine WL.split (d := 51) rfl (fun c10 => ?_) (fun c10 => ?_)
   ·replace hb_7 := ite_t hb_7 c10
    refine WL.yes rfl rfl <| lq (q_fieldAddr Fld_135_4 rfl) rfl <| WL.yes rfl rfl <| lq (q_load1 T1_9 rfl (fun w1 hw => hw.rgO (i := 0) rfl 4 1 [.string p0.Undo] rfl)) rfl <| WL.yes rfl rfl ?_
    obtain ⟨x4, hx4, hb_7⟩ := bind_some hb_7
    refine lp (p_call Fun_143 rfl (fun w1 hw => m_i_isUndo_ok hw.fro N p0.Undo hx4)) rfl <| WL.q (q_pick1 rfl rfl) rfl rfl rfl ?_
    cases hb_7
    exact WL.keep (by exact ⟨rfl, trivial⟩) K
   ·replace hb_7 := ite_f hb_7 c10
    refine WL.no rfl rfl rfl rfl <| WL.no rfl rfl rfl rfl <| WL.no rfl rfl rfl rfl <| WL.q (q_pick0 rfl rfl) rfl rfl rfl ?_
    cases hb_7
    exact WL.keep (by exact ⟨rfl, trivial⟩) K
  refine lq (q_assign rfl) rfl <| WL.nil ?_
  refine WT.ret Tryz.func74 (resOk.one rfl) (fun w1 hw => ?_)
  subst hb0
  cases h
  exact post_of_St hw
 replace h := ite_f h c8
 refine sr <| lq (q_eql rfl rfl) rfl <| lq (q_assign rfl) rfl <| WL.nil ?_
 refine WT.cond rfl (fun c11 => ?_) (fun c11 => ?_)
 ·replace h := ite_t h c11
  refine sr <| lq (q_loadN Tn_135 rfl (fun w1 hw => hw.rgO (i := 0) rfl 0 5 [.int .i64 p0.Kind, .string p0.Name, pv0_0, .int .i64 p0.N, .string p0.Undo] rfl) rfl) rfl ?_
  obtain ⟨x5, hx5, h⟩ := bind_some h
  refine lp (p_call Fun_142 rfl (fun w1 hw => m_i_argsOk_ok hw.fro N p0 ph0_0 hx5)) rfl <| lq (q_move rfl) rfl ?_
  obtain ⟨b8, hb_8, h⟩ := bind_some h
  refine WL.cutN 4 [(64, .bool b8), (1, .pointer (some ⟨b_1, 0, none⟩))] ?_ (fun K => ?_)
  rotate_left
  ·refine WL.split (d := 60) rfl (fun c12 => ?_) (fun c12 => ?_)
   ·replace hb_8 := ite_t hb_8 c12
    refine WL.yes rfl rfl <| lq (q_fieldAddr Fld_135_3 rfl) rfl <| WL.yes rfl rfl <| lq (q_load1 T1_3 rfl (fun w1 hw => hw.rgO (i := 0) rfl 3 1 [.int .i64 p0.N] rfl)) rfl <| WL.yes rfl rfl ?_
    obtain ⟨x6, hx6, hb_8⟩ := bind_some hb_8
    refine lp (p_call Fun_71 rfl (fun w1 hw => m_i_inRange_ok hw.fro N p0.N 0 100000 hx6)) rfl <| WL.q (q_pick1 rfl rfl) rfl rfl rfl ?_
    cases hb_8
    exact WL.keep (by exact ⟨rfl, rfl, trivial⟩) K
   ·replace hb_8 := ite_f hb_8 c12
    refine WL.no rfl rfl rfl rfl <| WL.no rfl rfl rfl rfl <| WL.no rfl rfl rfl rfl <| WL.q (q_pick0 rfl rfl) rfl rfl rfl ?_
    cases hb_8
    exact WL.keep (by exact ⟨rfl, rfl, trivial⟩) K
  refine lq (q_move rfl) rfl ?_
  obtain ⟨b9, hb_9, h⟩ := bind_some h
  refine WL.cutN 4 [(69, .bool b9)] ?_ (fun K => ?_)
  rotate_left
  ·refine WL.split (d := 65) rfl (fun c13 => ?_) (fun c13 => ?_)
   ·replace hb_9 := ite_t hb_9 c13
    refine WL.yes rfl rfl <| lq (q_fieldAddr Fld_135_4 rfl) rfl <| WL.yes rfl rfl <| lq (q_load1 T1_9 rfl (fun w1 hw => hw.rgO (i := 0) rfl 4 1 [.string p0.Undo] rfl)) rfl <| WL.yes rfl rfl <| lq (q_seq rfl rfl) rfl <| WL.q (q_pick1 rfl rfl) rfl rfl rfl ?_
    cases hb_9
    exact WL.keep (by exact ⟨rfl, trivial⟩) K
   ·replace hb_9 := ite_f hb_9 c13
    refine WL.no rfl rfl rfl rfl <| WL.no rfl rfl rfl rfl <| WL.no rfl rfl rfl rfl <| WL.q (q_pick0 rfl rfl) rfl rfl rfl ?_
    cases hb_9
    exact WL.keep (by exact ⟨rfl, trivial⟩) K
  refine lq (q_assign rfl) rfl <| WL.nil ?_
  refine WT.ret Tryz.func74 (resOk.one rfl) (fun w1 hw => ?_)
  subst hb0
  cases h
  exact post_of_St hw
 replace h := ite_f h c11
 refine WT.seq <| sr <| lq (q_eql rfl rfl) rfl <| lq (q_assign rfl) rfl <| WL.nil ?_
 refine cut (σ := Bool) (fun s => [(1, .pointer (some ⟨b_1, 0, none⟩)), (3, .bool b1), (70, .bool s)]) (fun s => St w0 Φ [(b_1, .cells #[.int .i64 p0.Kind, .string p0.Name, pv0_0, .int .i64 p0.N, .string p0.Undo] 135 (0, 0))] []) (fun s => m_i_ActOk_j1 N p0 b1 s = some r) (fun s hm => ?_) (fun K => ?_)
 ·clear h
  revert hm; revert s; intro s1 hm
  have h : m_i_ActOk_j1 N p0 b1 s1 = some r := hm
  show WT _ _ [(1, .pointer (some ⟨b_1, 0, none⟩)), (3, .bool b1), (70, .bool s1)] (St w0 Φ [(b_1, .cells #[.int .i64 p0.Kind, .string p0.Name, pv0_0, .int .i64 p0.N, .string p0.Undo] 135 (0, 0))] [])
  unfold m_i_ActOk_j1 at h
  refine WT.cond rfl (fun c14 => ?_) (fun c14 => ?_)
  ·replace h := ite_t h c14
   refine sr <| lq (q_move rfl) rfl <| lq (q_move rfl) rfl ?_
   obtain ⟨b10, hb_10, h⟩ := bind_some h
   refine WL.cutN 4 [(78, .bool b10), (1, .pointer (some ⟨b_1, 0, none⟩))] ?_ (fun K => ?_)
   rotate_left
   ·refine WL.split (d := 74) rfl (fun c15 => ?_) (fun c15 => ?_)
    ·replace hb_10 := ite_t hb_10 c15
     refine WL.yes rfl rfl <| lq (q_fieldAddr Fld_135_3 rfl) rfl <| WL.yes rfl rfl <| lq (q_load1 T1_3 rfl (fun w1 hw => hw.rgO (i := 0) rfl 3 1 [.int .i64 p0.N] rfl)) rfl <| WL.yes rfl rfl <| lq (q_eql rfl rfl) rfl <| WL.q (q_pick1 rfl rfl) rfl rfl rfl ?_
     cases hb_10
     exact WL.keep (by exact ⟨rfl, rfl, trivial⟩) K
    ·replace hb_10 := ite_f hb_10 c15
     refine WL.no rfl rfl rfl rfl <| WL.no rfl rfl rfl rfl <| WL.no rfl rfl rfl rfl <| WL.q (q_pick0 rfl rfl) rfl rfl rfl ?_
     cases hb_10
     exact WL.keep (by exact ⟨rfl, rfl, trivial⟩) K
   refine lq (q_move rfl) rfl ?_
   obtain ⟨b11, hb_11, h⟩ := bind_some h
   refine WL.cutN 4 [(83, .bool b11)] ?_ (fun K => ?_)
   rotate_left
   ·refine WL.split (d := 79) rfl (fun c16 => ?_) (fun c16 => ?_)
    ·replace hb_11 := ite_t hb_11 c16
     refine WL.yes rfl rfl <| lq (q_fieldAddr Fld_135_4 rfl) rfl <| WL.yes rfl rfl <| lq (q_load1 T1_9 rfl (fun w1 hw => hw.rgO (i := 0) rfl 4 1 [.string p0.Undo] rfl)) rfl <| WL.yes rfl rfl <| lq (q_seq rfl rfl) rfl <| WL.q (q_pick1 rfl rfl) rfl rfl rfl ?_
     cases hb_11
     exact WL.keep (by exact ⟨rfl, trivial⟩) K
    ·replace hb_11 := ite_f hb_11 c16
     refine WL.no rfl rfl rfl rfl <| WL.no rfl rfl rfl rfl <| WL.no rfl rfl rfl rfl <| WL.q (q_pick0 rfl rfl) rfl rfl rfl ?_
     cases hb_11
     exact WL.keep (by exact ⟨rfl, trivial⟩) K
   refine lq (q_assign rfl) rfl <| WL.nil ?_
   refine WT.ret Tryz.func74 (resOk.one rfl) (fun w1 hw => ?_)
   subst hb0
   cases h
   exact post_of_St hw
  replace h := ite_f h c14
  refine WT.skip <| WT.inBlock <| sr <| lq (q_assign rfl) rfl <| WL.nil ?_
  refine WT.ret Tryz.func74 (resOk.one rfl) (fun w1 hw => ?_)
  subst hb0
  cases h
  exact post_of_St hw
 refine WT.cond rfl (fun c17 => ?_) (fun c17 => ?_)
 ·replace h := ite_t h c17
  refine WT.skip <| WT.mono (l' := [(1, .pointer (some ⟨b_1, 0, none⟩)), (3, .bool b1), (70, .bool (decide (p0.Kind = 5)))]) (S' := St w0 Φ [(b_1, .cells #[.int .i64 p0.Kind, .string p0.Name, pv0_0, .int .i64 p0.N, .string p0.Undo] 135 (0, 0))] []) ⟨rfl, rfl, rfl, trivial⟩ (fun w1 hw => (hw.sel (js := []) rfl).selO (js := [0]) rfl) ?_
  exact K (decide (p0.Kind = 5)) h
 replace h := ite_f h c17
 refine WT.region <| lq (q_eql rfl rfl) rfl <| lq (q_assign rfl) rfl <| WL.nil <| WT.mono (l' := [(1, .pointer (some ⟨b_1, 0, none⟩)), (3, .bool b1), (70, .bool (decide (p0.Kind = 6)))]) (S' := St w0 Φ [(b_1, .cells #[.int .i64 p0.Kind, .string p0.Name, pv0_0, .int .i64 p0.N, .string p0.Undo] 135 (0, 0))] []) ⟨rfl, rfl, rfl, trivial⟩ (fun w1 hw => (hw.sel (js := []) rfl).selO (js := [0]) rfl) ?_
 exact K (decide (p0.Kind = 6)) h
theorem m_sl_Index_Sstring_string_ok {Φ : Hp} {w : World} (hΦ : In Φ w) (N : Nat) (p0 : (List ByteArray)) (p1 : ByteArray) {pv0 : Value} {pG0 : List Nat} (ph0 : RSl RS 1 Φ pG0 pv0 p0) {r : Int} (h : m_sl_Index_Sstring_string N p0 p1 = some r) :
  Calls Tryz.prog 145 [pv0, .string p1].toArray w (Post (.int .i64 r) w) := by
 refine enter Tryz.func145 rfl Tryz.ntmps145 rfl (St.start0 hΦ) ?_
 generalize hb0 : (⟨w, [], Φ⟩ : Base) = w0
 unfold m_sl_Index_Sstring_string at h
 refine sr <| lq (q_assign rfl) rfl <| WL.nil <| WT.seq <| sr <| lq (q_move rfl) rfl <| lq (q_lenR Sl_137 rfl rfl ph0) rfl <| lq (q_move rfl) rfl <| WL.nil <| WT.block <| WT.loop <| WT.mono (l' := [(0, pv0), (1, .string p1), (7, .int .i64 (p0.length : Int)), (8, .int .i64 0)]) (S' := St w0 Φ [] []) ⟨rfl, rfl, rfl, rfl, trivial⟩ (fun w1 hw => (hw.sel (js := []) rfl).selO (js := []) rfl) ?_
 refine loop_ind (σ := Int) (fun s => [(0, pv0), (1, .string p1), (7, .int .i64 (p0.length : Int)), (8, .int .i64 s)]) (fun s => St w0 Φ [] []) (fun m s => m_sl_Index_Sstring_string_l1 N p0 p1 m s = some r) (fun s hm => none_ne (show (none : Option (Int)) = some r from hm)) (fun n1 ih1 s hm => ?_) N (0) h
 revert hm; revert s; intro s1 hm
 have h : m_sl_Index_Sstring_string_l1 N p0 p1 (n1 + 1) s1 = some r := hm
 show WT _ _ [(0, pv0), (1, .string p1), (7, .int .i64 (p0.length : Int)), (8, .int .i64 s1)] (St w0 Φ [] [])
 unfold m_sl_Index_Sstring_string_l1 at h
 refine sr <| lq (q_lss rfl rfl) rfl <| WL.nil <| WT.seq ?_
 refine WT.cond rfl (fun c1 => ?_) (fun c1 => ?_)
 ·replace h := ite_t h c1
  refine WT.skip <| WT.seq <| WT.block <| sr <| lq (q_move rfl) rfl <| lq (q_assign rfl) rfl <| WL.nil <| sr <| lq (q_move rfl) rfl <| lq (q_move rfl) rfl <| lq (q_move rfl) rfl ?_
  obtain ⟨x1, hx1, h⟩ := bind_some h
  obtain ⟨cs1, F1, -, g1, hb1, hs1, r1⟩ := ph0.el (idx_some hx1).2.2
  obtain ⟨rfl, -⟩ := r1
  refine lq (q_indexAddr Sl_137 rfl rfl ph0 hx1) rfl <| lq (q_load1 T1_9 rfl (fun w1 hw => (g1.of_eq 0 1 rfl rfl : rg _ _ _ [.string x1]).rangeAt hw.fro)) rfl <| lq (q_seq rfl rfl) rfl <| WL.nil ?_
  refine WT.cond rfl (fun c2 => ?_) (fun c2 => ?_)
  ·replace h := ite_t h c2
   refine sr <| lq (q_move rfl) rfl <| lq (q_assign rfl) rfl <| WL.nil ?_
   refine WT.ret Tryz.func145 (resOk.one rfl) (fun w1 hw => ?_)
   subst hb0
   cases h
   exact post_of_St hw
  replace h := ite_f h c2
  refine WT.skip <| WT.inBlock <| WT.region <| lq (q_add rfl rfl) rfl <| lq (q_move rfl) rfl <| WL.nil ?_
  refine WT.inLoop (WT.mono (l' := [(0, pv0), (1, .string p1), (7, .int .i64 (p0.length : Int)), (8, .int .i64 (IntKind.i64.wrap (s1 + 1)))]) (S' := St w0 Φ [] []) ⟨rfl, rfl, rfl, rfl, trivial⟩ (fun w1 hw => (hw.sel (js := []) rfl).selO (js := []) rfl) ?_)
  exact ih1 (IntKind.i64.wrap (s1 + 1)) h
 replace h := ite_f h c1
 refine WT.exit rfl <| sr <| lq (q_assign rfl) rfl <| WL.nil ?_
 refine WT.ret Tryz.func145 (resOk.one rfl) (fun w1 hw => ?_)
 subst hb0
 cases h
 exact post_of_St hw
theorem m_sl_Contains_Sstring_string_ok {Φ : Hp} {w : World} (hΦ : In Φ w) (N : Nat) (p0 : (List ByteArray)) (p1 : ByteArray) {pv0 : Value} {pG0 : List Nat} (ph0 : RSl RS 1 Φ pG0 pv0 p0) {r : Bool} (h : m_sl_Contains_Sstring_string N p0 p1 = some r) :
  Calls Tryz.prog 77 [pv0, .string p1].toArray w (Post (.bool r) w) := by
 refine enter Tryz.func77 rfl Tryz.ntmps77 rfl (St.start0 hΦ) ?_
 unfold m_sl_Contains_Sstring_string at h
 refine sr <| lq (q_assign rfl) rfl <| WL.nil <| sr <| lq (q_move rfl) rfl <| lq (q_move rfl) rfl ?_
 obtain ⟨x1, hx1, h⟩ := bind_some h
 refine lp (p_call Fun_145 rfl (fun w1 hw => m_sl_Index_Sstring_string_ok hw.fro N p0 p1 ph0 hx1)) rfl <| lq (q_geq rfl rfl) rfl <| lq (q_assign rfl) rfl <| WL.nil ?_
 refine WT.ret Tryz.func77 (resOk.one rfl) (fun w1 hw => ?_)
 cases h
 exact post_of_St hw
theorem m_i_addOnce_ok {Φ : Hp} {w : World} (hΦ : In Φ w) (N : Nat) (p0 : (List ByteArray)) (p1 : ByteArray) {pv0 : Value} (ph0 : OSl RS 9 1 Φ [] pv0 p0) (hB : [ob pv0].flatten.Nodup) (hlt : ∀ k ∈ [ob pv0].flatten, k < w.heap.size) {r : (List ByteArray)} (h : m_i_addOnce N p0 p1 = some r) :
  Calls Tryz.prog 199 [pv0, .string p1].toArray w (PostG Φ w [ob pv0].flatten (fun Φ' Fs v => ∃ (sr_0_0 : Value), v = sr_0_0 ∧ Fs = [ob sr_0_0] ∧ OSl RS 9 1 Φ' [] sr_0_0 r)) := by
 refine enter Tryz.func199 rfl Tryz.ntmps199 rfl (St.start hΦ [ob pv0] hB hlt) ?_
 unfold m_i_addOnce at h
 refine sr <| lq (q_assign rfl) rfl <| WL.nil <| WT.seq <| sr <| lq (q_move rfl) rfl <| lq (q_move rfl) rfl ?_
 obtain ⟨x1, hx1, h⟩ := bind_some h
 refine lp (p_call Fun_77 rfl (fun w1 hw => m_sl_Contains_Sstring_string_ok hw.fro N p0 p1 ph0.rsl hx1)) rfl <| WL.nil ?_
 refine WT.cond rfl (fun c1 => ?_) (fun c1 => ?_)
 ·replace h := ite_t h c1
  refine sr <| lq (q_move rfl) rfl <| lq (q_assign rfl) rfl <| WL.nil ?_
  refine WT.ret Tryz.func199 (resOk.one rfl) (fun w1 hw => ?_)
  cases h
  refine postG_of_St (js := [0]) hw rfl ⟨pv0, rfl, rfl, ph0⟩
 replace h := ite_f h c1
 refine WT.skip <| sr <| lq (q_move rfl) rfl <| lq (q_move rfl) rfl ?_
 have rc1 : RC RS 1 Φ ([[]] : List (List Nat)) [.string p1] ([p1] : List ByteArray) := RC.cons (c := [.string p1]) (cells := []) ⟨rfl, rfl⟩ rfl (RC.nil _ _ _)
 refine le' (e_lit (vs := [(0, .string p1)]) (C := #[.string p1]) RS.lasts Sl_137 Zr_9 rfl rfl rfl rfl (fill_made MC_9_1 (fill_cons (cells := [.string ⟨#[]⟩]) (c := [.string p1]) (C' := [.string p1]) rfl rfl rfl rfl rfl (fill_nil))) rfl rc1 rfl (by simpa using Kw.nil)) rfl (fun v1 Φ_1 D1 q1 => ?_)
 obtain ⟨fr1, h1⟩ := q1
 replace h1 : OSl RS 9 1 Φ_1 [] v1 ([p1] : List ByteArray) := by simpa using h1
 replace ph0 := ph0.frame RS.lasts fr1 (Dj.empty _) (Dj.empty _)
 obtain ⟨x2, hx2, h⟩ := bind_some h
 refine le' (e_appF RS.lasts RS.one RS.flat Sl_137 Ei_9 rfl rfl rfl rfl rfl (js := [1]) (Rr := [ob v1]) rfl ph0 h1.rsl hx2) rfl (fun v2 Φ_2 D2 q2 => ?_)
 obtain ⟨⟨ap1, fr2⟩, h2⟩ := q2
 refine lq (q_assign rfl) rfl <| WL.nil ?_
 refine WT.ret Tryz.func199 (resOk.one rfl) (fun w1 hw => ?_)
 cases h
 refine postG_of_St (js := [0]) hw rfl ⟨v2, rfl, rfl, h2⟩
theorem m_i_addVars_ok {Φ : Hp} {w : World} (hΦ : In Φ w) (N : Nat) (p0 : (List ByteArray)) (p1 : (List TArg)) {pv0 : Value} {pv1 : Value} {pG1 : List Nat} (ph0 : OSl RS 9 1 Φ [] pv0 p0) (ph1 : RSl RTArg 5 Φ pG1 pv1 p1) (pd1 : Dj pG1 [ob pv0].flatten) (hB : [ob pv0].flatten.Nodup) (hlt : ∀ k ∈ [ob pv0].flatten, k < w.heap.size) {r : (List ByteArray)} (h : m_i_addVars N p0 p1 = some r) :
  Calls Tryz.prog 144 [pv0, pv1].toArray w (PostG Φ w [ob pv0].flatten (fun Φ' Fs v => ∃ (sr_0_0 : Value), v = sr_0_0 ∧ Fs = [ob sr_0_0] ∧ OSl RS 9 1 Φ' [] sr_0_0 r)) := by
 refine enter Tryz.func144 rfl Tryz.ntmps144 rfl (St.start hΦ [ob pv0] hB hlt) ?_
 have pa1 : Old ⟨w, [ob pv0].flatten, Φ⟩ pG1 := Old.mk hΦ ph1.kn pd1
 revert pa1
 generalize hb0 : (⟨w, [ob pv0].flatten, Φ⟩ : Base) = w0
 intro pa1
 unfold m_i_addVars at h
 refine sr <| lq (q_assign rfl) rfl <| WL.nil <| WT.seq <| sr <| lq (q_move rfl) rfl <| lq (q_lenR Sl_112 rfl rfl ph1) rfl <| lq (q_move rfl) rfl <| WL.nil <| WT.block <| WT.loop <| WT.mono (l' := [(0, pv0), (7, pv1), (8, .int .i64 (p1.length : Int)), (9, .int .i64 0)]) (S' := St w0 Φ [] [ob pv0]) ⟨rfl, rfl, rfl, rfl, trivial⟩ (fun w1 hw => (hw.sel (js := [0]) rfl).selO (js := []) rfl) ?_
 refine loop_ind (σ := Hp × (List ByteArray) × Value × Int) (fun s => [(0, s.2.2.1), (7, pv1), (8, .int .i64 (p1.length : Int)), (9, .int .i64 s.2.2.2)]) (fun s => St w0 s.1 [] [ob s.2.2.1]) (fun m s => m_i_addVars_l1 N p1 m s.2.1 s.2.2.2 = some r ∧ (OSl RS 9 1 s.1 [] s.2.2.1 s.2.1) ∧ (RSl RTArg 5 s.1 pG1 pv1 p1)) (fun s hm => none_ne (show (none : Option ((List ByteArray))) = some r from hm.1)) (fun n1 ih1 s hm => ?_) N (Φ, p0, pv0, 0) ⟨h, ph0, ph1⟩
 obtain ⟨Φ_1, s1, u1, s2⟩ := s
 obtain ⟨h, k1, ph1⟩ := hm
 replace h : m_i_addVars_l1 N p1 (n1 + 1) s1 s2 = some r := h
 replace k1 : OSl RS 9 1 Φ_1 [] u1 s1 := k1
 replace ph1 : RSl RTArg 5 Φ_1 pG1 pv1 p1 := ph1
 show WT _ _ [(0, u1), (7, pv1), (8, .int .i64 (p1.length : Int)), (9, .int .i64 s2)] (St w0 Φ_1 [] [ob u1])
 unfold m_i_addVars_l1 at h
 refine sr <| lq (q_lss rfl rfl) rfl <| WL.nil <| WT.seq ?_
 refine WT.cond rfl (fun c1 => ?_) (fun c1 => ?_)
 ·replace h := ite_t h c1
  refine WT.skip <| WT.seq <| WT.block <| WT.seq <| WT.region ?_
  obtain ⟨x1, hx1, h⟩ := bind_some h
  obtain ⟨cs1, F1, -, g1, hb1, hs1, r1⟩ := ph1.el (idx_some hx1).2.2
  obtain ⟨rfl, -⟩ := r1
  refine lq (q_indexAddr Sl_112 rfl rfl ph1 hx1) rfl <| lq (q_loadN Tn_126 rfl (fun w1 hw => (g1.of_eq 0 5 rfl rfl : rg _ _ _ [.int .i64 x1.K, .string x1.S, .int .i64 x1.V.K, .int .i64 x1.V.N, .string x1.V.S]).rangeAt hw.fro) rfl) rfl ?_
  refine ln (n_alloc (C := #[.int .i64 0, .string eS, .int .i64 0, .int .i64 0, .string eS]) Zr_126 rfl) rfl (fun b_1 => ?_)
  refine ls (s_store (i := 0) (vs := [.int .i64 x1.K, .string x1.S, .int .i64 x1.V.K, .int .i64 x1.V.N, .string x1.V.S]) (C' := [.int .i64 x1.K, .string x1.S, .int .i64 x1.V.K, .int .i64 x1.V.N, .string x1.V.S]) (O' := [(b_1, .cells #[.int .i64 x1.K, .string x1.S, .int .i64 x1.V.K, .int .i64 x1.V.N, .string x1.V.S] 126 (0, 0))]) Sz_126 rfl rfl rfl rfl rfl rfl ⟨rfl, rfl, rfl, rfl, rfl, trivial⟩ rfl rfl) rfl ?_
  refine WL.nil <| sr <| lq (q_fieldAddr Fld_126_0 rfl) rfl <| lq (q_load1 T1_3 rfl (fun w1 hw => hw.rgO (i := 0) rfl 0 1 [.int .i64 x1.K] rfl)) rfl <| lq (q_eql rfl rfl) rfl <| WL.nil ?_
  refine WT.cond rfl (fun c2 => ?_) (fun c2 => ?_)
  ·replace h := ite_t h c2
   refine WT.region <| lq (q_move rfl) rfl <| lq (q_fieldAddr Fld_126_1 rfl) rfl <| lq (q_load1 T1_9 rfl (fun w1 hw => hw.rgO (i := 0) rfl 1 1 [.string x1.S] rfl)) rfl ?_
   obtain ⟨x2, hx2, h⟩ := bind_some h
   refine lc (k_call (js := [0]) (R := []) Fun_199 rfl rfl (fun w1 hw ap hl => m_i_addOnce_ok hw.fro N s1 x1.S k1 ap.nd hl hx2)) rfl (fun v1 Φ_2 F2 q1 => ?_)
   obtain ⟨ap1, fr1, v2, rfl, rfl, h1⟩ := q1
   replace ph1 := ph1.frame RTArg.lasts fr1 (ap1.o pa1)
   refine lq (q_assign rfl) rfl <| WL.nil <| WT.inBlock <| WT.region <| lq (q_add rfl rfl) rfl <| lq (q_move rfl) rfl <| WL.nil ?_
   refine WT.inLoop (WT.mono (l' := [(0, v1), (7, pv1), (8, .int .i64 (p1.length : Int)), (9, .int .i64 (IntKind.i64.wrap (s2 + 1)))]) (S' := St w0 Φ_2 [] [ob v1]) ⟨rfl, rfl, rfl, rfl, trivial⟩ (fun w1 hw => (hw.sel (js := [0]) rfl).selO (js := []) rfl) ?_)
   exact ih1 (Φ_2, x2, v1, IntKind.i64.wrap (s2 + 1)) ⟨h, h1, ph1⟩
  replace h := ite_f h c2
  refine WT.skip <| WT.inBlock <| WT.region <| lq (q_add rfl rfl) rfl <| lq (q_move rfl) rfl <| WL.nil ?_
  refine WT.inLoop (WT.mono (l' := [(0, u1), (7, pv1), (8, .int .i64 (p1.length : Int)), (9, .int .i64 (IntKind.i64.wrap (s2 + 1)))]) (S' := St w0 Φ_1 [] [ob u1]) ⟨rfl, rfl, rfl, rfl, trivial⟩ (fun w1 hw => (hw.sel (js := [0]) rfl).selO (js := []) rfl) ?_)
  exact ih1 (Φ_1, s1, u1, IntKind.i64.wrap (s2 + 1)) ⟨h, k1, ph1⟩
 replace h := ite_f h c1
 refine WT.exit rfl <| sr <| lq (q_move rfl) rfl <| lq (q_assign rfl) rfl <| WL.nil ?_
 refine WT.ret Tryz.func144 (resOk.one rfl) (fun w1 hw => ?_)
 subst hb0
 cases h
 refine postG_of_St (js := [0]) hw rfl ⟨u1, rfl, rfl, k1⟩
theorem m_i_PosVars_ok {Φ : Hp} {w : World} (hΦ : In Φ w) (N : Nat) (p0 : TRule) {pv0_0 : Value} {pG0_0 : List Nat} {pv0_1 : Value} {pG0_1 : List Nat} {pv0_2 : Value} {pG0_2 : List Nat} (ph0_0 : RSl RTPat 3 Φ pG0_0 pv0_0 p0.Pats) (ph0_1 : RSl RTCond 11 Φ pG0_1 pv0_1 p0.Conds) (ph0_2 : RSl RTAct 5 Φ pG0_2 pv0_2 p0.Acts) {r : (List ByteArray)} (h : m_i_PosVars N p0 = some r) :
  Calls Tryz.prog 75 [.agg [.string p0.Name, .int .i64 p0.Sal, pv0_0, pv0_1, pv0_2].toArray].toArray w (PostG Φ w [] (fun Φ' Fs v => ∃ (sr_0_0 : Value), v = sr_0_0 ∧ Fs = [ob sr_0_0] ∧ OSl RS 9 1 Φ' [] sr_0_0 r)) := by
 refine enter Tryz.func75 rfl Tryz.ntmps75 rfl (St.start0 hΦ) ?_
 have pa0_0 : Old ⟨w, [], Φ⟩ pG0_0 := Old.mk hΦ ph0_0.kn (Dj.empty _)
 revert pa0_0
 generalize hb0 : (⟨w, [], Φ⟩ : Base) = w0
 intro pa0_0
 unfold m_i_PosVars at h
 refine WT.seq <| WT.region ?_
 refine ln (n_box (C := #[.string p0.Name, .int .i64 p0.Sal, pv0_0, pv0_1, pv0_2]) rfl rfl) rfl (fun b_1 => ?_)
 refine lq (q_assign rfl) rfl <| WL.nil <| sr <| lq (q_assign rfl) rfl <| WL.nil <| WT.seq <| sr <| lq (q_fieldAddr Fld_49_2 rfl) rfl <| lq (q_load1 T1_45 rfl (fun w1 hw => hw.rgO (i := 0) rfl 2 1 [pv0_0] rfl)) rfl <| lq (q_lenR Sl_45 rfl rfl ph0_0) rfl <| lq (q_move rfl) rfl <| WL.nil <| WT.block <| WT.loop <| WT.conv (S' := St w0 Φ [(b_1, .cells #[.string p0.Name, .int .i64 p0.Sal, pv0_0, pv0_1, pv0_2] 49 (0, 0))] (ob (.slice none 0 0) :: [])) (fun w1 hw => hw.addNil) ?_
 have k1 := OSl.nil RS 9 1 Φ
 refine WT.mono (l' := [(3, (.slice none 0 0)), (7, pv0_0), (8, .int .i64 (p0.Pats.length : Int)), (9, .int .i64 0)]) (S' := St w0 Φ [] [ob (.slice none 0 0)]) ⟨rfl, rfl, rfl, rfl, trivial⟩ (fun w1 hw => (hw.sel (js := [0]) rfl).selO (js := []) rfl) ?_
 refine loop_ind (σ := Hp × (List ByteArray) × Value × Int) (fun s => [(3, s.2.2.1), (7, pv0_0), (8, .int .i64 (p0.Pats.length : Int)), (9, .int .i64 s.2.2.2)]) (fun s => St w0 s.1 [] [ob s.2.2.1]) (fun m s => m_i_PosVars_l1 N p0 m s.2.1 s.2.2.2 = some r ∧ (OSl RS 9 1 s.1 [] s.2.2.1 s.2.1) ∧ (RSl RTPat 3 s.1 pG0_0 pv0_0 p0.Pats)) (fun s hm => none_ne (show (none : Option ((List ByteArray))) = some r from hm.1)) (fun n1 ih1 s hm => ?_) N (Φ, ([] : List ByteArray), (.slice none 0 0), 0) ⟨h, k1, ph0_0⟩
 obtain ⟨Φ_1, s1, u1, s2⟩ := s
 obtain ⟨h, k2, ph0_0⟩ := hm
 replace h : m_i_PosVars_l1 N p0 (n1 + 1) s1 s2 = some r := h
 replace k2 : OSl RS 9 1 Φ_1 [] u1 s1 := k2
 replace ph0_0 : RSl RTPat 3 Φ_1 pG0_0 pv0_0 p0.Pats := ph0_0
 show WT _ _ [(3, u1), (7, pv0_0), (8, .int .i64 (p0.Pats.length : Int)), (9, .int .i64 s2)] (St w0 Φ_1 [] [ob u1])
 unfold m_i_PosVars_l1 at h
 refine sr <| lq (q_lss rfl rfl) rfl <| WL.nil <| WT.seq ?_
 refine WT.cond rfl (fun c1 => ?_) (fun c1 => ?_)
 ·replace h := ite_t h c1
  refine WT.skip <| WT.seq <| WT.block <| WT.seq <| WT.region ?_
  obtain ⟨x1, hx1, h⟩ := bind_some h
  obtain ⟨cs1, F1, -, g1, hb1, hs1, r1⟩ := ph0_0.el (idx_some hx1).2.2
  obtain ⟨v1, G1, rfl, hq1, h1⟩ := r1
  obtain rfl := hq1.symm
  refine lq (q_indexAddr Sl_45 rfl rfl ph0_0 hx1) rfl <| lq (q_loadN Tn_114 rfl (fun w1 hw => (g1.of_eq 0 3 rfl rfl : rg _ _ _ [.string x1.Kind, v1, .bool x1.Not]).rangeAt hw.fro) rfl) rfl ?_
  refine ln (n_alloc (C := #[.string eS, .slice none 0 0, .bool false]) Zr_114 rfl) rfl (fun b_2 => ?_)
  refine ls (s_store (i := 0) (vs := [.string x1.Kind, v1, .bool x1.Not]) (C' := [.string x1.Kind, v1, .bool x1.Not]) (O' := [(b_2, .cells #[.string x1.Kind, v1, .bool x1.Not] 114 (0, 0))]) Sz_114 rfl rfl rfl rfl rfl rfl ⟨rfl, h1.one, rfl, trivial⟩ rfl rfl) rfl <| WL.nil <| sr <| lq (q_fieldAddr Fld_114_2 rfl) rfl <| lq (q_load1 T1_4 rfl (fun w1 hw => hw.rgO (i := 0) rfl 2 1 [.bool x1.Not] rfl)) rfl <| lq (q_not rfl) rfl ?_
  refine WL.nil ?_
  refine WT.cond rfl (fun c2 => ?_) (fun c2 => ?_)
  ·replace h := ite_t h c2
   refine WT.region <| lq (q_move rfl) rfl <| lq (q_fieldAddr Fld_114_1 rfl) rfl <| lq (q_load1 T1_112 rfl (fun w1 hw => hw.rgO (i := 0) rfl 1 1 [v1] rfl)) rfl ?_
   obtain ⟨x2, hx2, h⟩ := bind_some h
   refine lc (k_call (js := [0]) (R := []) Fun_144 rfl rfl (fun w1 hw ap hl => m_i_addVars_ok hw.fro N s1 x1.Args k2 h1 (Dj.sub (ap.o pa0_0) (fun k h => hs1 k h)) ap.nd hl hx2)) rfl (fun v2 Φ_2 F2 q1 => ?_)
   obtain ⟨ap1, fr1, v3, rfl, rfl, h2⟩ := q1
   replace ph0_0 := ph0_0.frame RTPat.lasts fr1 (ap1.o pa0_0)
   refine lq (q_assign rfl) rfl <| WL.nil <| WT.inBlock <| WT.region <| lq (q_add rfl rfl) rfl <| lq (q_move rfl) rfl <| WL.nil ?_
   refine WT.inLoop (WT.mono (l' := [(3, v2), (7, pv0_0), (8, .int .i64 (p0.Pats.length : Int)), (9, .int .i64 (IntKind.i64.wrap (s2 + 1)))]) (S' := St w0 Φ_2 [] [ob v2]) ⟨rfl, rfl, rfl, rfl, trivial⟩ (fun w1 hw => (hw.sel (js := [0]) rfl).selO (js := []) rfl) ?_)
   exact ih1 (Φ_2, x2, v2, IntKind.i64.wrap (s2 + 1)) ⟨h, h2, ph0_0⟩
  replace h := ite_f h c2
  refine WT.skip <| WT.inBlock <| WT.region <| lq (q_add rfl rfl) rfl <| lq (q_move rfl) rfl <| WL.nil ?_
  refine WT.inLoop (WT.mono (l' := [(3, u1), (7, pv0_0), (8, .int .i64 (p0.Pats.length : Int)), (9, .int .i64 (IntKind.i64.wrap (s2 + 1)))]) (S' := St w0 Φ_1 [] [ob u1]) ⟨rfl, rfl, rfl, rfl, trivial⟩ (fun w1 hw => (hw.sel (js := [0]) rfl).selO (js := []) rfl) ?_)
  exact ih1 (Φ_1, s1, u1, IntKind.i64.wrap (s2 + 1)) ⟨h, k2, ph0_0⟩
 replace h := ite_f h c1
 refine WT.exit rfl <| sr <| lq (q_move rfl) rfl <| lq (q_assign rfl) rfl <| WL.nil ?_
 refine WT.ret Tryz.func75 (resOk.one rfl) (fun w1 hw => ?_)
 subst hb0
 cases h
 refine postG_of_St (js := [0]) hw rfl ⟨u1, rfl, rfl, k2⟩
theorem m_i_usedVars_ok {Φ : Hp} {w : World} (hΦ : In Φ w) (N : Nat) (p0 : TRule) {pv0_0 : Value} {pG0_0 : List Nat} {pv0_1 : Value} {pG0_1 : List Nat} {pv0_2 : Value} {pG0_2 : List Nat} (ph0_0 : RSl RTPat 3 Φ pG0_0 pv0_0 p0.Pats) (ph0_1 : RSl RTCond 11 Φ pG0_1 pv0_1 p0.Conds) (ph0_2 : RSl RTAct 5 Φ pG0_2 pv0_2 p0.Acts) {r : (List ByteArray)} (h : m_i_usedVars N p0 = some r) :
  Calls Tryz.prog 76 [.agg [.string p0.Name, .int .i64 p0.Sal, pv0_0, pv0_1, pv0_2].toArray].toArray w (PostG Φ w [] (fun Φ' Fs v => ∃ (sr_0_0 : Value), v = sr_0_0 ∧ Fs = [ob sr_0_0] ∧ OSl RS 9 1 Φ' [] sr_0_0 r)) := by
 refine enter Tryz.func76 rfl Tryz.ntmps76 rfl (St.start0 hΦ) ?_
 have pa0_0 : Old ⟨w, [], Φ⟩ pG0_0 := Old.mk hΦ ph0_0.kn (Dj.empty _)
 have pa0_1 : Old ⟨w, [], Φ⟩ pG0_1 := Old.mk hΦ ph0_1.kn (Dj.empty _)
 have pa0_2 : Old ⟨w, [], Φ⟩ pG0_2 := Old.mk hΦ ph0_2.kn (Dj.empty _)
 revert pa0_0 pa0_1 pa0_2
 generalize hb0 : (⟨w, [], Φ⟩ : Base) = w0
 intro pa0_0 pa0_1 pa0_2
 unfold m_i_usedVars at h
 refine WT.seq <| WT.region ?_
 refine ln (n_box (C := #[.string p0.Name, .int .i64 p0.Sal, pv0_0, pv0_1, pv0_2]) rfl rfl) rfl (fun b_1 => ?_)
 refine lq (q_assign rfl) rfl <| WL.nil <| sr <| lq (q_assign rfl) rfl <| WL.nil <| WT.seq <| sr <| lq (q_fieldAddr Fld_49_3 rfl) rfl <| lq (q_load1 T1_46 rfl (fun w1 hw => hw.rgO (i := 0) rfl 3 1 [pv0_1] rfl)) rfl <| lq (q_lenR Sl_46 rfl rfl ph0_1) rfl <| lq (q_move rfl) rfl <| WL.nil <| WT.block <| WT.loop <| WT.conv (S' := St w0 Φ [(b_1, .cells #[.string p0.Name, .int .i64 p0.Sal, pv0_0, pv0_1, pv0_2] 49 (0, 0))] (ob (.slice none 0 0) :: [])) (fun w1 hw => hw.addNil) ?_
 have k1 := OSl.nil RS 9 1 Φ
 refine WT.mono (l' := [(1, .pointer (some ⟨b_1, 0, none⟩)), (3, (.slice none 0 0)), (11, pv0_1), (12, .int .i64 (p0.Conds.length : Int)), (13, .int .i64 0)]) (S' := St w0 Φ [(b_1, .cells #[.string p0.Name, .int .i64 p0.Sal, pv0_0, pv0_1, pv0_2] 49 (0, 0))] [ob (.slice none 0 0)]) ⟨rfl, rfl, rfl, rfl, rfl, trivial⟩ (fun w1 hw => (hw.sel (js := [0]) rfl).selO (js := [0]) rfl) ?_
 refine loop_ind (σ := Hp × (List ByteArray) × Value × Int) (fun s => [(1, .pointer (some ⟨b_1, 0, none⟩)), (3, s.2.2.1), (11, pv0_1), (12, .int .i64 (p0.Conds.length : Int)), (13, .int .i64 s.2.2.2)]) (fun s => St w0 s.1 [(b_1, .cells #[.string p0.Name, .int .i64 p0.Sal, pv0_0, pv0_1, pv0_2] 49 (0, 0))] [ob s.2.2.1]) (fun m s => m_i_usedVars_l1 N p0 m s.2.1 s.2.2.2 = some r ∧ (OSl RS 9 1 s.1 [] s.2.2.1 s.2.1) ∧ (RSl RTPat 3 s.1 pG0_0 pv0_0 p0.Pats) ∧ (RSl RTCond 11 s.1 pG0_1 pv0_1 p0.Conds) ∧ (RSl RTAct 5 s.1 pG0_2 pv0_2 p0.Acts)) (fun s hm => none_ne (show (none : Option ((List ByteArray))) = some r from hm.1)) (fun n1 ih1 s hm => ?_) N (Φ, ([] : List ByteArray), (.slice none 0 0), 0) ⟨h, k1, ph0_0, ph0_1, ph0_2⟩
 obtain ⟨Φ_1, s1, u1, s2⟩ := s
 obtain ⟨h, k2, ph0_0, ph0_1, ph0_2⟩ := hm
 replace h : m_i_usedVars_l1 N p0 (n1 + 1) s1 s2 = some r := h
 replace k2 : OSl RS 9 1 Φ_1 [] u1 s1 := k2
 replace ph0_0 : RSl RTPat 3 Φ_1 pG0_0 pv0_0 p0.Pats := ph0_0
 replace ph0_1 : RSl RTCond 11 Φ_1 pG0_1 pv0_1 p0.Conds := ph0_1
 replace ph0_2 : RSl RTAct 5 Φ_1 pG0_2 pv0_2 p0.Acts := ph0_2
 show WT _ _ [(1, .pointer (some ⟨b_1, 0, none⟩)), (3, u1), (11, pv0_1), (12, .int .i64 (p0.Conds.length : Int)), (13, .int .i64 s2)] (St w0 Φ_1 [(b_1, .cells #[.string p0.Name, .int .i64 p0.Sal, pv0_0, pv0_1, pv0_2] 49 (0, 0))] [ob u1])
 unfold m_i_usedVars_l1 at h
 refine sr <| lq (q_lss rfl rfl) rfl <| WL.nil <| WT.seq ?_
 refine WT.cond rfl (fun c1 => ?_) (fun c1 => ?_)
 ·replace h := ite_t h c1
  refine WT.skip <| WT.seq <| WT.block <| WT.seq <| WT.region ?_
  obtain ⟨x1, hx1, h⟩ := bind_some h
  obtain ⟨cs1, F1, -, g1, hb1, hs1, r1⟩ := ph0_1.el (idx_some hx1).2.2
  obtain ⟨rfl, -⟩ := r1
  refine lq (q_indexAddr Sl_46 rfl rfl ph0_1 hx1) rfl <| lq (q_loadN Tn_128 rfl (fun w1 hw => (g1.of_eq 0 11 rfl rfl : rg _ _ _ [.int .i64 x1.Op, .int .i64 x1.L.K, .string x1.L.S, .int .i64 x1.L.V.K, .int .i64 x1.L.V.N, .string x1.L.V.S, .int .i64 x1.R.K, .string x1.R.S, .int .i64 x1.R.V.K, .int .i64 x1.R.V.N, .string x1.R.V.S]).rangeAt hw.fro) rfl) rfl ?_
  refine ln (n_alloc (C := #[.int .i64 0, .int .i64 0, .string eS, .int .i64 0, .int .i64 0, .string eS, .int .i64 0, .string eS, .int .i64 0, .int .i64 0, .string eS]) Zr_128 rfl) rfl (fun b_2 => ?_)
  refine ls (s_store (i := 0) (vs := [.int .i64 x1.Op, .int .i64 x1.L.K, .string x1.L.S, .int .i64 x1.L.V.K, .int .i64 x1.L.V.N, .string x1.L.V.S, .int .i64 x1.R.K, .string x1.R.S, .int .i64 x1.R.V.K, .int .i64 x1.R.V.N, .string x1.R.V.S]) (C' := [.int .i64 x1.Op, .int .i64 x1.L.K, .string x1.L.S, .int .i64 x1.L.V.K, .int .i64 x1.L.V.N, .string x1.L.V.S, .int .i64 x1.R.K, .string x1.R.S, .int .i64 x1.R.V.K, .int .i64 x1.R.V.N, .string x1.R.V.S]) (O' := [(b_2, .cells #[.int .i64 x1.Op, .int .i64 x1.L.K, .string x1.L.S, .int .i64 x1.L.V.K, .int .i64 x1.L.V.N, .string x1.L.V.S, .int .i64 x1.R.K, .string x1.R.S, .int .i64 x1.R.V.K, .int .i64 x1.R.V.N, .string x1.R.V.S] 128 (0, 0)), (b_1, .cells #[.string p0.Name, .int .i64 p0.Sal, pv0_0, pv0_1, pv0_2] 49 (0, 0))]) Sz_128 rfl rfl rfl rfl rfl rfl ⟨rfl, rfl, rfl, rfl, rfl, rfl, rfl, rfl, rfl, rfl, rfl, trivial⟩ rfl rfl) rfl ?_
  refine WL.nil <| WT.region <| lq (q_move rfl) rfl <| lq (q_fieldAddr Fld_128_1 rfl) rfl <| lq (q_loadN Tn_126 rfl (fun w1 hw => hw.rgO (i := 0) rfl 1 5 [.int .i64 x1.L.K, .string x1.L.S, .int .i64 x1.L.V.K, .int .i64 x1.L.V.N, .string x1.L.V.S] rfl) rfl) rfl <| lq (q_fieldAddr Fld_128_2 rfl) rfl <| lq (q_loadN Tn_126 rfl (fun w1 hw => hw.rgO (i := 0) rfl 6 5 [.int .i64 x1.R.K, .string x1.R.S, .int .i64 x1.R.V.K, .int .i64 x1.R.V.N, .string x1.R.V.S] rfl) rfl) rfl ?_
  have rc1 : RC RTArg 5 Φ_1 ([[], []] : List (List Nat)) [.int .i64 x1.L.K, .string x1.L.S, .int .i64 x1.L.V.K, .int .i64 x1.L.V.N, .string x1.L.V.S, .int .i64 x1.R.K, .string x1.R.S, .int .i64 x1.R.V.K, .int .i64 x1.R.V.N, .string x1.R.V.S] ([x1.L, x1.R] : List TArg) := RC.cons (c := [.int .i64 x1.L.K, .string x1.L.S, .int .i64 x1.L.V.K, .int .i64 x1.L.V.N, .string x1.L.V.S]) (cells := [.int .i64 x1.R.K, .string x1.R.S, .int .i64 x1.R.V.K, .int .i64 x1.R.V.N, .string x1.R.V.S]) ⟨rfl, rfl⟩ rfl (RC.cons (c := [.int .i64 x1.R.K, .string x1.R.S, .int .i64 x1.R.V.K, .int .i64 x1.R.V.N, .string x1.R.V.S]) (cells := []) ⟨rfl, rfl⟩ rfl (RC.nil _ _ _))
  refine le' (e_lit (vs := [(0, .agg [.int .i64 x1.L.K, .string x1.L.S, .int .i64 x1.L.V.K, .int .i64 x1.L.V.N, .string x1.L.V.S].toArray), (1, .agg [.int .i64 x1.R.K, .string x1.R.S, .int .i64 x1.R.V.K, .int .i64 x1.R.V.N, .string x1.R.V.S].toArray)]) (C := #[.int .i64 x1.L.K, .string x1.L.S, .int .i64 x1.L.V.K, .int .i64 x1.L.V.N, .string x1.L.V.S, .int .i64 x1.R.K, .string x1.R.S, .int .i64 x1.R.V.K, .int .i64 x1.R.V.N, .string x1.R.V.S]) RTArg.lasts Sl_112 Zr_126 rfl rfl rfl rfl (fill_made MC_126_2 (fill_cons (cells := [.int .i64 0, .string ⟨#[]⟩, .int .i64 0, .int .i64 0, .string ⟨#[]⟩, .int .i64 0, .string ⟨#[]⟩, .int .i64 0, .int .i64 0, .string ⟨#[]⟩]) (c := [.int .i64 x1.L.K, .string x1.L.S, .int .i64 x1.L.V.K, .int .i64 x1.L.V.N, .string x1.L.V.S]) (C' := [.int .i64 x1.L.K, .string x1.L.S, .int .i64 x1.L.V.K, .int .i64 x1.L.V.N, .string x1.L.V.S, .int .i64 0, .string ⟨#[]⟩, .int .i64 0, .int .i64 0, .string ⟨#[]⟩]) rfl rfl rfl rfl rfl (fill_cons (cells := [.int .i64 x1.L.K, .string x1.L.S, .int .i64 x1.L.V.K, .int .i64 x1.L.V.N, .string x1.L.V.S, .int .i64 0, .string ⟨#[]⟩, .int .i64 0, .int .i64 0, .string ⟨#[]⟩]) (c := [.int .i64 x1.R.K, .string x1.R.S, .int .i64 x1.R.V.K, .int .i64 x1.R.V.N, .string x1.R.V.S]) (C' := [.int .i64 x1.L.K, .string x1.L.S, .int .i64 x1.L.V.K, .int .i64 x1.L.V.N, .string x1.L.V.S, .int .i64 x1.R.K, .string x1.R.S, .int .i64 x1.R.V.K, .int .i64 x1.R.V.N, .string x1.R.V.S]) rfl rfl rfl rfl rfl (fill_nil)))) rfl rc1 rfl (by simpa using Kw.nil)) rfl (fun v1 Φ_2 D1 q1 => ?_)
  obtain ⟨fr1, h1⟩ := q1
  replace h1 : OSl RTArg 126 5 Φ_2 [] v1 ([x1.L, x1.R] : List TArg) := by simpa using h1
  replace ph0_0 := ph0_0.frame RTPat.lasts fr1 (Dj.empty _)
  replace ph0_1 := ph0_1.frame RTCond.lasts fr1 (Dj.empty _)
  replace ph0_2 := ph0_2.frame RTAct.lasts fr1 (Dj.empty _)
  replace k2 := k2.frame RS.lasts fr1 (Dj.empty _) (Dj.empty _)
  obtain ⟨x2, hx2, h⟩ := bind_some h
  refine lc (k_call (js := [1]) (R := [ob v1]) Fun_144 rfl rfl (fun w1 hw ap hl => m_i_addVars_ok hw.fro N s1 ([x1.L, x1.R] : List TArg) k2 h1.rsl (Dj.app (ap.r (i := 0) rfl) (Dj.nil _)) ap.nd hl hx2)) rfl (fun v2 Φ_3 F2 q2 => ?_)
  obtain ⟨ap1, fr2, v3, rfl, rfl, h2⟩ := q2
  replace ph0_0 := ph0_0.frame RTPat.lasts fr2 (ap1.o pa0_0)
  replace ph0_1 := ph0_1.frame RTCond.lasts fr2 (ap1.o pa0_1)
  replace ph0_2 := ph0_2.frame RTAct.lasts fr2 (ap1.o pa0_2)
  refine lq (q_assign rfl) rfl <| WL.nil <| WT.inBlock <| WT.region <| lq (q_add rfl rfl) rfl <| lq (q_move rfl) rfl <| WL.nil ?_
  refine WT.inLoop (WT.mono (l' := [(1, .pointer (some ⟨b_1, 0, none⟩)), (3, v2), (11, pv0_1), (12, .int .i64 (p0.Conds.length : Int)), (13, .int .i64 (IntKind.i64.wrap (s2 + 1)))]) (S' := St w0 Φ_3 [(b_1, .cells #[.string p0.Name, .int .i64 p0.Sal, pv0_0, pv0_1, pv0_2] 49 (0, 0))] [ob v2]) ⟨rfl, rfl, rfl, rfl, rfl, trivial⟩ (fun w1 hw => (hw.sel (js := [0]) rfl).selO (js := [1]) rfl) ?_)
  exact ih1 (Φ_3, x2, v2, IntKind.i64.wrap (s2 + 1)) ⟨h, h2, ph0_0, ph0_1, ph0_2⟩
 replace h := ite_f h c1
 refine WT.exit rfl <| WT.seq <| sr <| lq (q_fieldAddr Fld_49_4 rfl) rfl <| lq (q_load1 T1_47 rfl (fun w1 hw => hw.rgO (i := 0) rfl 4 1 [pv0_2] rfl)) rfl <| lq (q_lenR Sl_47 rfl rfl ph0_2) rfl <| lq (q_move rfl) rfl <| WL.nil <| WT.block <| WT.loop <| WT.mono (l' := [(3, u1), (26, pv0_2), (27, .int .i64 (p0.Acts.length : Int)), (28, .int .i64 0)]) (S' := St w0 Φ_1 [] [ob u1]) ⟨rfl, rfl, rfl, rfl, trivial⟩ (fun w1 hw => (hw.sel (js := [0]) rfl).selO (js := []) rfl) ?_
 refine loop_ind (σ := Hp × (List ByteArray) × Value × Int) (fun s => [(3, s.2.2.1), (26, pv0_2), (27, .int .i64 (p0.Acts.length : Int)), (28, .int .i64 s.2.2.2)]) (fun s => St w0 s.1 [] [ob s.2.2.1]) (fun m s => m_i_usedVars_l2 N p0 m s.2.1 s.2.2.2 = some r ∧ (OSl RS 9 1 s.1 [] s.2.2.1 s.2.1) ∧ (RSl RTAct 5 s.1 pG0_2 pv0_2 p0.Acts)) (fun s hm => none_ne (show (none : Option ((List ByteArray))) = some r from hm.1)) (fun n2 ih2 s hm => ?_) N (Φ_1, s1, u1, 0) ⟨h, k2, ph0_2⟩
 obtain ⟨Φ_4, s3, u2, s4⟩ := s
 obtain ⟨h, k3, ph0_2⟩ := hm
 replace h : m_i_usedVars_l2 N p0 (n2 + 1) s3 s4 = some r := h
 replace k3 : OSl RS 9 1 Φ_4 [] u2 s3 := k3
 replace ph0_2 : RSl RTAct 5 Φ_4 pG0_2 pv0_2 p0.Acts := ph0_2
 show WT _ _ [(3, u2), (26, pv0_2), (27, .int .i64 (p0.Acts.length : Int)), (28, .int .i64 s4)] (St w0 Φ_4 [] [ob u2])
 unfold m_i_usedVars_l2 at h
 refine sr <| lq (q_lss rfl rfl) rfl <| WL.nil <| WT.seq ?_
 refine WT.cond rfl (fun c2 => ?_) (fun c2 => ?_)
 ·replace h := ite_t h c2
  refine WT.skip <| WT.seq <| WT.block <| WT.seq <| WT.region ?_
  obtain ⟨x3, hx3, h⟩ := bind_some h
  obtain ⟨cs2, F3, -, g2, hb2, hs2, r2⟩ := ph0_2.el (idx_some hx3).2.2
  obtain ⟨v4, G1, rfl, hq1, h3⟩ := r2
  obtain rfl := hq1.symm
  refine lq (q_indexAddr Sl_47 rfl rfl ph0_2 hx3) rfl <| lq (q_loadN Tn_135 rfl (fun w1 hw => (g2.of_eq 0 5 rfl rfl : rg _ _ _ [.int .i64 x3.Kind, .string x3.Name, v4, .int .i64 x3.N, .string x3.Undo]).rangeAt hw.fro) rfl) rfl ?_
  refine ln (n_alloc (C := #[.int .i64 0, .string eS, .slice none 0 0, .int .i64 0, .string eS]) Zr_135 rfl) rfl (fun b_3 => ?_)
  refine ls (s_store (i := 0) (vs := [.int .i64 x3.Kind, .string x3.Name, v4, .int .i64 x3.N, .string x3.Undo]) (C' := [.int .i64 x3.Kind, .string x3.Name, v4, .int .i64 x3.N, .string x3.Undo]) (O' := [(b_3, .cells #[.int .i64 x3.Kind, .string x3.Name, v4, .int .i64 x3.N, .string x3.Undo] 135 (0, 0))]) Sz_135 rfl rfl rfl rfl rfl rfl ⟨rfl, rfl, h3.one, rfl, rfl, trivial⟩ rfl rfl) rfl <| WL.nil <| sr <| lq (q_fieldAddr Fld_135_2 rfl) rfl ?_
  refine lq (q_load1 T1_133 rfl (fun w1 hw => hw.rgO (i := 0) rfl 2 1 [v4] rfl)) rfl <| lq (q_lenR Sl_133 rfl rfl h3) rfl <| lq (q_move rfl) rfl <| WL.nil <| WT.block <| WT.loop <| WT.mono (l' := [(3, u2), (26, pv0_2), (27, .int .i64 (p0.Acts.length : Int)), (28, .int .i64 s4), (33, v4), (34, .int .i64 (x3.Args.length : Int)), (35, .int .i64 0)]) (S' := St w0 Φ_4 [] [ob u2]) ⟨rfl, rfl, rfl, rfl, rfl, rfl, rfl, trivial⟩ (fun w1 hw => (hw.sel (js := [0]) rfl).selO (js := []) rfl) ?_
  refine loop_ind (σ := Hp × (List ByteArray) × Value × Int) (fun s => [(3, s.2.2.1), (26, pv0_2), (27, .int .i64 (p0.Acts.length : Int)), (28, .int .i64 s4), (33, v4), (34, .int .i64 (x3.Args.length : Int)), (35, .int .i64 s.2.2.2)]) (fun s => St w0 s.1 [] [ob s.2.2.1]) (fun m s => m_i_usedVars_l3 N s4 (m_i_usedVars_l2 N p0 n2) x3 m s.2.1 s.2.2.2 = some r ∧ (OSl RS 9 1 s.1 [] s.2.2.1 s.2.1) ∧ (RSl RTAct 5 s.1 pG0_2 pv0_2 p0.Acts) ∧ (RSl RTExpr 11 s.1 G1 v4 x3.Args)) (fun s hm => none_ne (show (none : Option ((List ByteArray))) = some r from hm.1)) (fun n3 ih3 s hm => ?_) N (Φ_4, s3, u2, 0) ⟨h, k3, ph0_2, h3⟩
  obtain ⟨Φ_5, s5, u3, s6⟩ := s
  obtain ⟨h, k4, ph0_2, h3⟩ := hm
  replace h : m_i_usedVars_l3 N s4 (m_i_usedVars_l2 N p0 n2) x3 (n3 + 1) s5 s6 = some r := h
  replace k4 : OSl RS 9 1 Φ_5 [] u3 s5 := k4
  replace ph0_2 : RSl RTAct 5 Φ_5 pG0_2 pv0_2 p0.Acts := ph0_2
  replace h3 : RSl RTExpr 11 Φ_5 G1 v4 x3.Args := h3
  show WT _ _ [(3, u3), (26, pv0_2), (27, .int .i64 (p0.Acts.length : Int)), (28, .int .i64 s4), (33, v4), (34, .int .i64 (x3.Args.length : Int)), (35, .int .i64 s6)] (St w0 Φ_5 [] [ob u3])
  unfold m_i_usedVars_l3 at h
  refine sr <| lq (q_lss rfl rfl) rfl <| WL.nil <| WT.seq ?_
  refine WT.cond rfl (fun c3 => ?_) (fun c3 => ?_)
  ·replace h := ite_t h c3
   refine WT.skip <| WT.seq <| WT.block <| WT.seq <| WT.region ?_
   obtain ⟨x4, hx4, h⟩ := bind_some h
   obtain ⟨cs3, F4, -, g3, hb3, hs3, r3⟩ := h3.el (idx_some hx4).2.2
   obtain ⟨rfl, -⟩ := r3
   refine lq (q_indexAddr Sl_133 rfl rfl h3 hx4) rfl <| lq (q_loadN Tn_175 rfl (fun w1 hw => (g3.of_eq 0 11 rfl rfl : rg _ _ _ [.string x4.Op, .int .i64 x4.L.K, .string x4.L.S, .int .i64 x4.L.V.K, .int .i64 x4.L.V.N, .string x4.L.V.S, .int .i64 x4.R.K, .string x4.R.S, .int .i64 x4.R.V.K, .int .i64 x4.R.V.N, .string x4.R.V.S]).rangeAt hw.fro) rfl) rfl ?_
   refine ln (n_alloc (C := #[.string eS, .int .i64 0, .string eS, .int .i64 0, .int .i64 0, .string eS, .int .i64 0, .string eS, .int .i64 0, .int .i64 0, .string eS]) Zr_175 rfl) rfl (fun b_4 => ?_)
   refine ls (s_store (i := 0) (vs := [.string x4.Op, .int .i64 x4.L.K, .string x4.L.S, .int .i64 x4.L.V.K, .int .i64 x4.L.V.N, .string x4.L.V.S, .int .i64 x4.R.K, .string x4.R.S, .int .i64 x4.R.V.K, .int .i64 x4.R.V.N, .string x4.R.V.S]) (C' := [.string x4.Op, .int .i64 x4.L.K, .string x4.L.S, .int .i64 x4.L.V.K, .int .i64 x4.L.V.N, .string x4.L.V.S, .int .i64 x4.R.K, .string x4.R.S, .int .i64 x4.R.V.K, .int .i64 x4.R.V.N, .string x4.R.V.S]) (O' := [(b_4, .cells #[.string x4.Op, .int .i64 x4.L.K, .string x4.L.S, .int .i64 x4.L.V.K, .int .i64 x4.L.V.N, .string x4.L.V.S, .int .i64 x4.R.K, .string x4.R.S, .int .i64 x4.R.V.K, .int .i64 x4.R.V.N, .string x4.R.V.S] 175 (0, 0))]) Sz_175 rfl rfl rfl rfl rfl rfl ⟨rfl, rfl, rfl, rfl, rfl, rfl, rfl, rfl, rfl, rfl, rfl, trivial⟩ rfl rfl) rfl ?_
   refine WL.nil <| WT.region <| lq (q_move rfl) rfl <| lq (q_fieldAddr Fld_175_1 rfl) rfl <| lq (q_loadN Tn_126 rfl (fun w1 hw => hw.rgO (i := 0) rfl 1 5 [.int .i64 x4.L.K, .string x4.L.S, .int .i64 x4.L.V.K, .int .i64 x4.L.V.N, .string x4.L.V.S] rfl) rfl) rfl <| lq (q_fieldAddr Fld_175_2 rfl) rfl <| lq (q_loadN Tn_126 rfl (fun w1 hw => hw.rgO (i := 0) rfl 6 5 [.int .i64 x4.R.K, .string x4.R.S, .int .i64 x4.R.V.K, .int .i64 x4.R.V.N, .string x4.R.V.S] rfl) rfl) rfl ?_
   have rc2 : RC RTArg 5 Φ_5 ([[], []] : List (List Nat)) [.int .i64 x4.L.K, .string x4.L.S, .int .i64 x4.L.V.K, .int .i64 x4.L.V.N, .string x4.L.V.S, .int .i64 x4.R.K, .string x4.R.S, .int .i64 x4.R.V.K, .int .i64 x4.R.V.N, .string x4.R.V.S] ([x4.L, x4.R] : List TArg) := RC.cons (c := [.int .i64 x4.L.K, .string x4.L.S, .int .i64 x4.L.V.K, .int .i64 x4.L.V.N, .string x4.L.V.S]) (cells := [.int .i64 x4.R.K, .string x4.R.S, .int .i64 x4.R.V.K, .int .i64 x4.R.V.N, .string x4.R.V.S]) ⟨rfl, rfl⟩ rfl (RC.cons (c := [.int .i64 x4.R.K, .string x4.R.S, .int .i64 x4.R.V.K, .int .i64 x4.R.V.N, .string x4.R.V.S]) (cells := []) ⟨rfl, rfl⟩ rfl (RC.nil _ _ _))
   refine le' (e_lit (vs := [(0, .agg [.int .i64 x4.L.K, .string x4.L.S, .int .i64 x4.L.V.K, .int .i64 x4.L.V.N, .string x4.L.V.S].toArray), (1, .agg [.int .i64 x4.R.K, .string x4.R.S, .int .i64 x4.R.V.K, .int .i64 x4.R.V.N, .string x4.R.V.S].toArray)]) (C := #[.int .i64 x4.L.K, .string x4.L.S, .int .i64 x4.L.V.K, .int .i64 x4.L.V.N, .string x4.L.V.S, .int .i64 x4.R.K, .string x4.R.S, .int .i64 x4.R.V.K, .int .i64 x4.R.V.N, .string x4.R.V.S]) RTArg.lasts Sl_112 Zr_126 rfl rfl rfl rfl (fill_made MC_126_2 (fill_cons (cells := [.int .i64 0, .string ⟨#[]⟩, .int .i64 0, .int .i64 0, .string ⟨#[]⟩, .int .i64 0, .string ⟨#[]⟩, .int .i64 0, .int .i64 0, .string ⟨#[]⟩]) (c := [.int .i64 x4.L.K, .string x4.L.S, .int .i64 x4.L.V.K, .int .i64 x4.L.V.N, .string x4.L.V.S]) (C' := [.int .i64 x4.L.K, .string x4.L.S, .int .i64 x4.L.V.K, .int .i64 x4.L.V.N, .string x4.L.V.S, .int .i64 0, .string ⟨#[]⟩, .int .i64 0, .int .i64 0, .string ⟨#[]⟩]) rfl rfl rfl rfl rfl (fill_cons (cells := [.int .i64 x4.L.K, .string x4.L.S, .int .i64 x4.L.V.K, .int .i64 x4.L.V.N, .string x4.L.V.S, .int .i64 0, .string ⟨#[]⟩, .int .i64 0, .int .i64 0, .string ⟨#[]⟩]) (c := [.int .i64 x4.R.K, .string x4.R.S, .int .i64 x4.R.V.K, .int .i64 x4.R.V.N, .string x4.R.V.S]) (C' := [.int .i64 x4.L.K, .string x4.L.S, .int .i64 x4.L.V.K, .int .i64 x4.L.V.N, .string x4.L.V.S, .int .i64 x4.R.K, .string x4.R.S, .int .i64 x4.R.V.K, .int .i64 x4.R.V.N, .string x4.R.V.S]) rfl rfl rfl rfl rfl (fill_nil)))) rfl rc2 rfl (by simpa using Kw.nil)) rfl (fun v5 Φ_6 D2 q3 => ?_)
   obtain ⟨fr3, h4⟩ := q3
   replace h4 : OSl RTArg 126 5 Φ_6 [] v5 ([x4.L, x4.R] : List TArg) := by simpa using h4
   replace ph0_2 := ph0_2.frame RTAct.lasts fr3 (Dj.empty _)
   replace h3 := h3.frame RTExpr.lasts fr3 (Dj.empty _)
   replace k4 := k4.frame RS.lasts fr3 (Dj.empty _) (Dj.empty _)
   obtain ⟨x5, hx5, h⟩ := bind_some h
   refine lc (k_call (js := [1]) (R := [ob v5]) Fun_144 rfl rfl (fun w1 hw ap hl => m_i_addVars_ok hw.fro N s5 ([x4.L, x4.R] : List TArg) k4 h4.rsl (Dj.app (ap.r (i := 0) rfl) (Dj.nil _)) ap.nd hl hx5)) rfl (fun v6 Φ_7 F5 q4 => ?_)
   obtain ⟨ap2, fr4, v7, rfl, rfl, h5⟩ := q4
   replace ph0_2 := ph0_2.frame RTAct.lasts fr4 (ap2.o pa0_2)
   replace h3 := h3.frame RTExpr.lasts fr4 (Dj.sub (ap2.o pa0_2) (fun k h => hs2 k h))
   refine lq (q_assign rfl) rfl <| WL.nil <| WT.inBlock <| WT.region <| lq (q_add rfl rfl) rfl <| lq (q_move rfl) rfl <| WL.nil ?_
   refine WT.inLoop (WT.mono (l' := [(3, v6), (26, pv0_2), (27, .int .i64 (p0.Acts.length : Int)), (28, .int .i64 s4), (33, v4), (34, .int .i64 (x3.Args.length : Int)), (35, .int .i64 (IntKind.i64.wrap (s6 + 1)))]) (S' := St w0 Φ_7 [] [ob v6]) ⟨rfl, rfl, rfl, rfl, rfl, rfl, rfl, trivial⟩ (fun w1 hw => (hw.sel (js := [0]) rfl).selO (js := []) rfl) ?_)
   exact ih3 (Φ_7, x5, v6, IntKind.i64.wrap (s6 + 1)) ⟨h, h5, ph0_2, h3⟩
  replace h := ite_f h c3
  refine WT.exit rfl <| WT.inBlock <| WT.region <| lq (q_add rfl rfl) rfl <| lq (q_move rfl) rfl <| WL.nil ?_
  refine WT.inLoop (WT.mono (l' := [(3, u3), (26, pv0_2), (27, .int .i64 (p0.Acts.length : Int)), (28, .int .i64 (IntKind.i64.wrap (s4 + 1)))]) (S' := St w0 Φ_5 [] [ob u3]) ⟨rfl, rfl, rfl, rfl, trivial⟩ (fun w1 hw => (hw.sel (js := [0]) rfl).selO (js := []) rfl) ?_)
  exact ih2 (Φ_5, s5, u3, IntKind.i64.wrap (s4 + 1)) ⟨h, k4, ph0_2⟩
 replace h := ite_f h c2
 refine WT.exit rfl <| sr <| lq (q_move rfl) rfl <| lq (q_assign rfl) rfl <| WL.nil ?_
 refine WT.ret Tryz.func76 (resOk.one rfl) (fun w1 hw => ?_)
 subst hb0
 cases h
 refine postG_of_St (js := [0]) hw rfl ⟨u2, rfl, rfl, k3⟩
theorem m_i_RuleOk_ok {Φ : Hp} {w : World} (hΦ : In Φ w) (N : Nat) (p0 : TRule) {pv0_0 : Value} {pG0_0 : List Nat} {pv0_1 : Value} {pG0_1 : List Nat} {pv0_2 : Value} {pG0_2 : List Nat} (ph0_0 : RSl RTPat 3 Φ pG0_0 pv0_0 p0.Pats) (ph0_1 : RSl RTCond 11 Φ pG0_1 pv0_1 p0.Conds) (ph0_2 : RSl RTAct 5 Φ pG0_2 pv0_2 p0.Acts) {r : Bool} (h : m_i_RuleOk N p0 = some r) :
  Calls Tryz.prog 26 [.agg [.string p0.Name, .int .i64 p0.Sal, pv0_0, pv0_1, pv0_2].toArray].toArray w (Post (.bool r) w) := by
 refine enter Tryz.func26 rfl Tryz.ntmps26 rfl (St.start0 hΦ) ?_
 have pa0_0 : Old ⟨w, [], Φ⟩ pG0_0 := Old.mk hΦ ph0_0.kn (Dj.empty _)
 have pa0_1 : Old ⟨w, [], Φ⟩ pG0_1 := Old.mk hΦ ph0_1.kn (Dj.empty _)
 have pa0_2 : Old ⟨w, [], Φ⟩ pG0_2 := Old.mk hΦ ph0_2.kn (Dj.empty _)
 revert pa0_0 pa0_1 pa0_2
 generalize hb0 : (⟨w, [], Φ⟩ : Base) = w0
 intro pa0_0 pa0_1 pa0_2
 unfold m_i_RuleOk at h
 refine WT.seq <| WT.region ?_
 refine ln (n_box (C := #[.string p0.Name, .int .i64 p0.Sal, pv0_0, pv0_1, pv0_2]) rfl rfl) rfl (fun b_1 => ?_)
 refine lq (q_assign rfl) rfl <| WL.nil <| WT.seq <| sr <| lq (q_fieldAddr Fld_49_0 rfl) rfl <| lq (q_load1 T1_9 rfl (fun w1 hw => hw.rgO (i := 0) rfl 0 1 [.string p0.Name] rfl)) rfl ?_
 obtain ⟨x1, hx1, h⟩ := bind_some h
 refine lp (p_call Fun_70 rfl (fun w1 hw => m_i_NameOk_ok hw.fro N p0.Name hx1)) rfl <| lq (q_not rfl) rfl <| lq (q_move rfl) rfl ?_
 obtain ⟨b1, hb_1, h⟩ := bind_some h
 refine WL.cutN 5 [(19, .bool b1), (1, .pointer (some ⟨b_1, 0, none⟩))] ?_ (fun K => ?_)
 rotate_left
 ·refine WL.split (d := 14) rfl (fun c1 => ?_) (fun c1 => ?_)
  ·replace hb_1 := ite_t hb_1 c1
   refine WL.no rfl rfl rfl rfl <| WL.no rfl rfl rfl rfl <| WL.no rfl rfl rfl rfl <| WL.no rfl rfl rfl rfl <| WL.q (q_pick1 rfl rfl) rfl rfl rfl ?_
   cases hb_1
   exact WL.keep (by exact ⟨rfl, rfl, trivial⟩) K
  ·replace hb_1 := ite_f hb_1 c1
   refine WL.yes rfl rfl <| lq (q_fieldAddr Fld_49_1 rfl) rfl <| WL.yes rfl rfl <| lq (q_load1 T1_3 rfl (fun w1 hw => hw.rgO (i := 0) rfl 1 1 [.int .i64 p0.Sal] rfl)) rfl <| WL.yes rfl rfl ?_
   obtain ⟨x2, hx2, hb_1⟩ := bind_some hb_1
   refine lp (p_call Fun_71 rfl (fun w1 hw => m_i_inRange_ok hw.fro N p0.Sal (-100) 100 hx2)) rfl <| WL.yes rfl rfl <| lq (q_not rfl) rfl <| WL.q (q_pick0 rfl rfl) rfl rfl rfl ?_
   cases hb_1
   exact WL.keep (by exact ⟨rfl, rfl, trivial⟩) K
 refine lq (q_move rfl) rfl ?_
 obtain ⟨b2, hb_2, h⟩ := bind_some h
 refine WL.cutN 4 [(24, .bool b2), (1, .pointer (some ⟨b_1, 0, none⟩))] ?_ (fun K => ?_)
 rotate_left
 ·refine WL.split (d := 20) rfl (fun c2 => ?_) (fun c2 => ?_)
  ·replace hb_2 := ite_t hb_2 c2
   refine WL.no rfl rfl rfl rfl <| WL.no rfl rfl rfl rfl <| WL.no rfl rfl rfl rfl <| WL.q (q_pick1 rfl rfl) rfl rfl rfl ?_
   cases hb_2
   exact WL.keep (by exact ⟨rfl, rfl, trivial⟩) K
  ·replace hb_2 := ite_f hb_2 c2
   refine WL.yes rfl rfl <| lq (q_loadN Tn_49 rfl (fun w1 hw => hw.rgO (i := 0) rfl 0 5 [.string p0.Name, .int .i64 p0.Sal, pv0_0, pv0_1, pv0_2] rfl) rfl) rfl <| WL.yes rfl rfl ?_
   obtain ⟨x3, hx3, hb_2⟩ := bind_some hb_2
   refine lp (p_call Fun_72 rfl (fun w1 hw => m_i_patsOk_ok hw.fro N p0 ph0_0 ph0_1 ph0_2 hx3)) rfl <| WL.yes rfl rfl <| lq (q_not rfl) rfl <| WL.q (q_pick0 rfl rfl) rfl rfl rfl ?_
   cases hb_2
   exact WL.keep (by exact ⟨rfl, rfl, trivial⟩) K
 refine WL.nil ?_
 refine WT.cond rfl (fun c3 => ?_) (fun c3 => ?_)
 ·replace h := ite_t h c3
  refine sr <| lq (q_assign rfl) rfl <| WL.nil ?_
  refine WT.ret Tryz.func26 (resOk.one rfl) (fun w1 hw => ?_)
  subst hb0
  cases h
  exact post_of_St hw
 replace h := ite_f h c3
 refine WT.skip <| WT.seq <| sr <| lq (q_fieldAddr Fld_49_3 rfl) rfl <| lq (q_load1 T1_46 rfl (fun w1 hw => hw.rgO (i := 0) rfl 3 1 [pv0_1] rfl)) rfl <| lq (q_lenR Sl_46 rfl rfl ph0_1) rfl <| lq (q_gtr rfl rfl) rfl <| lq (q_move rfl) rfl ?_
 obtain ⟨b3, hb_3, h⟩ := bind_some h
 refine WL.cutN 6 [(35, .bool b3), (1, .pointer (some ⟨b_1, 0, none⟩))] ?_ (fun K => ?_)
 rotate_left
 ·refine WL.split (d := 29) rfl (fun c4 => ?_) (fun c4 => ?_)
  ·replace hb_3 := ite_t hb_3 c4
   refine WL.no rfl rfl rfl rfl <| WL.no rfl rfl rfl rfl <| WL.no rfl rfl rfl rfl <| WL.no rfl rfl rfl rfl <| WL.no rfl rfl rfl rfl <| WL.q (q_pick1 rfl rfl) rfl rfl rfl ?_
   cases hb_3
   exact WL.keep (by exact ⟨rfl, rfl, trivial⟩) K
  ·replace hb_3 := ite_f hb_3 c4
   refine WL.yes rfl rfl <| lq (q_fieldAddr Fld_49_4 rfl) rfl <| WL.yes rfl rfl <| lq (q_load1 T1_47 rfl (fun w1 hw => hw.rgO (i := 0) rfl 4 1 [pv0_2] rfl)) rfl <| WL.yes rfl rfl <| lq (q_lenR Sl_47 rfl rfl ph0_2) rfl <| WL.yes rfl rfl ?_
   obtain ⟨x4, hx4, hb_3⟩ := bind_some hb_3
   refine lp (p_call Fun_71 rfl (fun w1 hw => m_i_inRange_ok hw.fro N (p0.Acts.length : Int) 1 6 hx4)) rfl <| WL.yes rfl rfl <| lq (q_not rfl) rfl <| WL.q (q_pick0 rfl rfl) rfl rfl rfl ?_
   cases hb_3
   exact WL.keep (by exact ⟨rfl, rfl, trivial⟩) K
 refine WL.nil ?_
 refine WT.cond rfl (fun c5 => ?_) (fun c5 => ?_)
 ·replace h := ite_t h c5
  refine sr <| lq (q_assign rfl) rfl <| WL.nil ?_
  refine WT.ret Tryz.func26 (resOk.one rfl) (fun w1 hw => ?_)
  subst hb0
  cases h
  exact post_of_St hw
 replace h := ite_f h c5
 refine WT.skip <| WT.seq <| sr <| lq (q_fieldAddr Fld_49_3 rfl) rfl <| lq (q_load1 T1_46 rfl (fun w1 hw => hw.rgO (i := 0) rfl 3 1 [pv0_1] rfl)) rfl <| lq (q_lenR Sl_46 rfl rfl ph0_1) rfl <| lq (q_move rfl) rfl <| WL.nil <| WT.block <| WT.loop <| WT.mono (l' := [(1, .pointer (some ⟨b_1, 0, none⟩)), (37, pv0_1), (38, .int .i64 (p0.Conds.length : Int)), (39, .int .i64 0)]) (S' := St w0 Φ [(b_1, .cells #[.string p0.Name, .int .i64 p0.Sal, pv0_0, pv0_1, pv0_2] 49 (0, 0))] []) ⟨rfl, rfl, rfl, rfl, trivial⟩ (fun w1 hw => (hw.sel (js := []) rfl).selO (js := [0]) rfl) ?_
 refine loop_ind (σ := Int) (fun s => [(1, .pointer (some ⟨b_1, 0, none⟩)), (37, pv0_1), (38, .int .i64 (p0.Conds.length : Int)), (39, .int .i64 s)]) (fun s => St w0 Φ [(b_1, .cells #[.string p0.Name, .int .i64 p0.Sal, pv0_0, pv0_1, pv0_2] 49 (0, 0))] []) (fun m s => m_i_RuleOk_l1 N p0 m s = some r) (fun s hm => none_ne (show (none : Option (Bool)) = some r from hm)) (fun n1 ih1 s hm => ?_) N (0) h
 revert hm; revert s; intro s1 hm
 have h : m_i_RuleOk_l1 N p0 (n1 + 1) s1 = some r := hm
 show WT _ _ [(1, .pointer (some ⟨b_1, 0, none⟩)), (37, pv0_1), (38, .int .i64 (p0.Conds.length : Int)), (39, .int .i64 s1)] (St w0 Φ [(b_1, .cells #[.string p0.Name, .int .i64 p0.Sal, pv0_0, pv0_1, pv0_2] 49 (0, 0))] [])
 unfold m_i_RuleOk_l1 at h
 refine sr <| lq (q_lss rfl rfl) rfl <| WL.nil <| WT.seq ?_
 refine WT.cond rfl (fun c6 => ?_) (fun c6 => ?_)
 ·replace h := ite_t h c6
  refine WT.skip <| WT.seq <| WT.block <| WT.seq <| WT.region ?_
  obtain ⟨x5, hx5, h⟩ := bind_some h
  obtain ⟨cs1, F1, -, g1, hb1, hs1, r1⟩ := ph0_1.el (idx_some hx5).2.2
  obtain ⟨rfl, -⟩ := r1
  refine lq (q_indexAddr Sl_46 rfl rfl ph0_1 hx5) rfl <| lq (q_loadN Tn_128 rfl (fun w1 hw => (g1.of_eq 0 11 rfl rfl : rg _ _ _ [.int .i64 x5.Op, .int .i64 x5.L.K, .string x5.L.S, .int .i64 x5.L.V.K, .int .i64 x5.L.V.N, .string x5.L.V.S, .int .i64 x5.R.K, .string x5.R.S, .int .i64 x5.R.V.K, .int .i64 x5.R.V.N, .string x5.R.V.S]).rangeAt hw.fro) rfl) rfl ?_
  refine ln (n_alloc (C := #[.int .i64 0, .int .i64 0, .string eS, .int .i64 0, .int .i64 0, .string eS, .int .i64 0, .string eS, .int .i64 0, .int .i64 0, .string eS]) Zr_128 rfl) rfl (fun b_2 => ?_)
  refine ls (s_store (i := 0) (vs := [.int .i64 x5.Op, .int .i64 x5.L.K, .string x5.L.S, .int .i64 x5.L.V.K, .int .i64 x5.L.V.N, .string x5.L.V.S, .int .i64 x5.R.K, .string x5.R.S, .int .i64 x5.R.V.K, .int .i64 x5.R.V.N, .string x5.R.V.S]) (C' := [.int .i64 x5.Op, .int .i64 x5.L.K, .string x5.L.S, .int .i64 x5.L.V.K, .int .i64 x5.L.V.N, .string x5.L.V.S, .int .i64 x5.R.K, .string x5.R.S, .int .i64 x5.R.V.K, .int .i64 x5.R.V.N, .string x5.R.V.S]) (O' := [(b_2, .cells #[.int .i64 x5.Op, .int .i64 x5.L.K, .string x5.L.S, .int .i64 x5.L.V.K, .int .i64 x5.L.V.N, .string x5.L.V.S, .int .i64 x5.R.K, .string x5.R.S, .int .i64 x5.R.V.K, .int .i64 x5.R.V.N, .string x5.R.V.S] 128 (0, 0)), (b_1, .cells #[.string p0.Name, .int .i64 p0.Sal, pv0_0, pv0_1, pv0_2] 49 (0, 0))]) Sz_128 rfl rfl rfl rfl rfl rfl ⟨rfl, rfl, rfl, rfl, rfl, rfl, rfl, rfl, rfl, rfl, rfl, trivial⟩ rfl rfl) rfl ?_
  refine WL.nil <| sr <| lq (q_loadN Tn_128 rfl (fun w1 hw => hw.rgO (i := 0) rfl 0 11 [.int .i64 x5.Op, .int .i64 x5.L.K, .string x5.L.S, .int .i64 x5.L.V.K, .int .i64 x5.L.V.N, .string x5.L.V.S, .int .i64 x5.R.K, .string x5.R.S, .int .i64 x5.R.V.K, .int .i64 x5.R.V.N, .string x5.R.V.S] rfl) rfl) rfl ?_
  obtain ⟨x6, hx6, h⟩ := bind_some h
  refine lp (p_call Fun_73 rfl (fun w1 hw => m_i_CondOk_ok hw.fro N x5 hx6)) rfl <| lq (q_not rfl) rfl <| WL.nil ?_
  refine WT.cond rfl (fun c7 => ?_) (fun c7 => ?_)
  ·replace h := ite_t h c7
   refine sr <| lq (q_assign rfl) rfl <| WL.nil ?_
   refine WT.ret Tryz.func26 (resOk.one rfl) (fun w1 hw => ?_)
   subst hb0
   cases h
   exact post_of_St hw
  replace h := ite_f h c7
  refine WT.skip <| WT.inBlock <| WT.region <| lq (q_add rfl rfl) rfl <| lq (q_move rfl) rfl <| WL.nil ?_
  refine WT.inLoop (WT.mono (l' := [(1, .pointer (some ⟨b_1, 0, none⟩)), (37, pv0_1), (38, .int .i64 (p0.Conds.length : Int)), (39, .int .i64 (IntKind.i64.wrap (s1 + 1)))]) (S' := St w0 Φ [(b_1, .cells #[.string p0.Name, .int .i64 p0.Sal, pv0_0, pv0_1, pv0_2] 49 (0, 0))] []) ⟨rfl, rfl, rfl, rfl, trivial⟩ (fun w1 hw => (hw.sel (js := []) rfl).selO (js := [1]) rfl) ?_)
  exact ih1 (IntKind.i64.wrap (s1 + 1)) h
 replace h := ite_f h c6
 refine WT.exit rfl <| WT.seq <| sr <| lq (q_fieldAddr Fld_49_4 rfl) rfl <| lq (q_load1 T1_47 rfl (fun w1 hw => hw.rgO (i := 0) rfl 4 1 [pv0_2] rfl)) rfl <| lq (q_lenR Sl_47 rfl rfl ph0_2) rfl <| lq (q_move rfl) rfl <| WL.nil <| WT.block <| WT.loop <| WT.mono (l' := [(1, .pointer (some ⟨b_1, 0, none⟩)), (48, pv0_2), (49, .int .i64 (p0.Acts.length : Int)), (50, .int .i64 0)]) (S' := St w0 Φ [(b_1, .cells #[.string p0.Name, .int .i64 p0.Sal, pv0_0, pv0_1, pv0_2] 49 (0, 0))] []) ⟨rfl, rfl, rfl, rfl, trivial⟩ (fun w1 hw => (hw.sel (js := []) rfl).selO (js := [0]) rfl) ?_
 refine loop_ind (σ := Int) (fun s => [(1, .pointer (some ⟨b_1, 0, none⟩)), (48, pv0_2), (49, .int .i64 (p0.Acts.length : Int)), (50, .int .i64 s)]) (fun s => St w0 Φ [(b_1, .cells #[.string p0.Name, .int .i64 p0.Sal, pv0_0, pv0_1, pv0_2] 49 (0, 0))] []) (fun m s => m_i_RuleOk_l2 N p0 m s = some r) (fun s hm => none_ne (show (none : Option (Bool)) = some r from hm)) (fun n2 ih2 s hm => ?_) N (0) h
 revert hm; revert s; intro s2 hm
 have h : m_i_RuleOk_l2 N p0 (n2 + 1) s2 = some r := hm
 show WT _ _ [(1, .pointer (some ⟨b_1, 0, none⟩)), (48, pv0_2), (49, .int .i64 (p0.Acts.length : Int)), (50, .int .i64 s2)] (St w0 Φ [(b_1, .cells #[.string p0.Name, .int .i64 p0.Sal, pv0_0, pv0_1, pv0_2] 49 (0, 0))] [])
 unfold m_i_RuleOk_l2 at h
 refine sr <| lq (q_lss rfl rfl) rfl <| WL.nil <| WT.seq ?_
 refine WT.cond rfl (fun c8 => ?_) (fun c8 => ?_)
 ·replace h := ite_t h c8
  refine WT.skip <| WT.seq <| WT.block <| WT.seq <| WT.region ?_
  obtain ⟨x7, hx7, h⟩ := bind_some h
  obtain ⟨cs2, F2, -, g2, hb2, hs2, r2⟩ := ph0_2.el (idx_some hx7).2.2
  obtain ⟨v1, G1, rfl, hq1, h1⟩ := r2
  obtain rfl := hq1.symm
  refine lq (q_indexAddr Sl_47 rfl rfl ph0_2 hx7) rfl <| lq (q_loadN Tn_135 rfl (fun w1 hw => (g2.of_eq 0 5 rfl rfl : rg _ _ _ [.int .i64 x7.Kind, .string x7.Name, v1, .int .i64 x7.N, .string x7.Undo]).rangeAt hw.fro) rfl) rfl ?_
  refine ln (n_alloc (C := #[.int .i64 0, .string eS, .slice none 0 0, .int .i64 0, .string eS]) Zr_135 rfl) rfl (fun b_3 => ?_)
  refine ls (s_store (i := 0) (vs := [.int .i64 x7.Kind, .string x7.Name, v1, .int .i64 x7.N, .string x7.Undo]) (C' := [.int .i64 x7.Kind, .string x7.Name, v1, .int .i64 x7.N, .string x7.Undo]) (O' := [(b_3, .cells #[.int .i64 x7.Kind, .string x7.Name, v1, .int .i64 x7.N, .string x7.Undo] 135 (0, 0)), (b_1, .cells #[.string p0.Name, .int .i64 p0.Sal, pv0_0, pv0_1, pv0_2] 49 (0, 0))]) Sz_135 rfl rfl rfl rfl rfl rfl ⟨rfl, rfl, h1.one, rfl, rfl, trivial⟩ rfl rfl) rfl ?_
  refine WL.nil <| WT.seq <| WT.draw mixed (by kernel_rfl) (fun _ h => h.drew) <| qq (q_loadN Tn_135 rfl (fun w1 hw => hw.rgO (i := 0) rfl 0 5 [.int .i64 x7.Kind, .string x7.Name, v1, .int .i64 x7.N, .string x7.Undo] rfl) rfl) rfl ?_
  obtain ⟨x8, hx8, h⟩ := bind_some h
  refine qp (p_call Fun_74 rfl (fun w1 hw => m_i_ActOk_ok hw.fro N x7 h1 hx8)) rfl <| qq (q_not rfl) rfl <| qq (q_move rfl) rfl ?_
  obtain ⟨b4, hb_4, h⟩ := bind_some h
  refine WQ.cutN 11 [(68, .bool b4), (1, .pointer (some ⟨b_1, 0, none⟩)), (48, pv0_2), (49, .int .i64 (p0.Acts.length : Int)), (50, .int .i64 s2)] ?_ (fun K => ?_)
  rotate_left
  ·refine WQ.split (d := 57) rfl (fun c9 => ?_) (fun c9 => ?_)
   ·replace hb_4 := ite_t hb_4 c9
    refine WQ.no rfl rfl rfl rfl <| WQ.no rfl rfl rfl rfl <| WQ.no rfl rfl rfl rfl <| WQ.no rfl rfl rfl rfl <| WQ.nox rfl rfl rfl rfl <| WQ.nox rfl rfl rfl rfl <| WQ.nox rfl rfl rfl rfl <| WQ.nox rfl rfl rfl rfl <| WQ.nox rfl rfl rfl rfl <| WQ.no rfl rfl rfl rfl <| WQ.q (q_pick1 rfl rfl) rfl rfl rfl ?_
    cases hb_4
    exact WQ.keep (by exact ⟨rfl, rfl, rfl, rfl, rfl, trivial⟩) K
   ·replace hb_4 := ite_f hb_4 c9
    refine WQ.yes rfl rfl <| qq (q_fieldAddr Fld_135_0 rfl) rfl <| WQ.yes rfl rfl <| qq (q_load1 T1_3 rfl (fun w1 hw => hw.rgO (i := 0) rfl 0 1 [.int .i64 x7.Kind] rfl)) rfl <| WQ.yes rfl rfl <| qq (q_eql rfl rfl) rfl <| WQ.yes rfl rfl <| qq (q_move rfl) rfl ?_
    obtain ⟨b5, hb_5, hb_4⟩ := bind_some hb_4
    refine WQ.cutN 6 [(67, .bool b5), (1, .pointer (some ⟨b_1, 0, none⟩)), (48, pv0_2), (49, .int .i64 (p0.Acts.length : Int)), (50, .int .i64 s2), (57, .bool false)] ?_ (fun K => ?_)
    rotate_left
    ·refine WQ.split (d := 61) rfl (fun c10 => ?_) (fun c10 => ?_)
     ·replace hb_5 := ite_t hb_5 c10
      refine WQ.yes rfl rfl <| qq (q_fieldAddr Fld_135_3 rfl) rfl <| WQ.yes rfl rfl <| qq (q_load1 T1_3 rfl (fun w1 hw => hw.rgO (i := 0) rfl 3 1 [.int .i64 x7.N] rfl)) rfl <| WQ.yes rfl rfl <| qq (q_loadN Tn_49 rfl (fun w1 hw => hw.rgO (i := 1) rfl 0 5 [.string p0.Name, .int .i64 p0.Sal, pv0_0, pv0_1, pv0_2] rfl) rfl) rfl <| WQ.yes rfl rfl ?_
      obtain ⟨x9, hx9, hb_5⟩ := bind_some hb_5
      refine qp (p_call Fun_24 rfl (fun w1 hw => m_i_PosCount_ok hw.fro N p0 ph0_0 ph0_1 ph0_2 hx9)) rfl <| WQ.yes rfl rfl <| qq (q_geq rfl rfl) rfl <| WQ.yes rfl rfl <| WQ.q (q_pick1 rfl rfl) rfl rfl rfl ?_
      cases hb_5
      exact WQ.keep (by exact ⟨rfl, rfl, rfl, rfl, rfl, rfl, trivial⟩) K
     ·replace hb_5 := ite_f hb_5 c10
      refine WQ.no rfl rfl rfl rfl <| WQ.no rfl rfl rfl rfl <| WQ.no rfl rfl rfl rfl <| WQ.no rfl rfl rfl rfl <| WQ.no rfl rfl rfl rfl <| WQ.yes rfl rfl <| WQ.q (q_pick0 rfl rfl) rfl rfl rfl ?_
      cases hb_5
      exact WQ.keep (by exact ⟨rfl, rfl, rfl, rfl, rfl, rfl, trivial⟩) K
    refine WQ.q (q_pick0 rfl rfl) rfl rfl rfl ?_
    cases hb_4
    exact WQ.keep (by exact ⟨rfl, rfl, rfl, rfl, rfl, trivial⟩) K
  refine WQ.nil ?_
  refine WT.cond rfl (fun c11 => ?_) (fun c11 => ?_)
  ·replace h := ite_t h c11
   refine sr <| lq (q_assign rfl) rfl <| WL.nil ?_
   refine WT.ret Tryz.func26 (resOk.one rfl) (fun w1 hw => ?_)
   subst hb0
   cases h
   exact post_of_St hw
  replace h := ite_f h c11
  refine WT.skip <| WT.inBlock <| WT.region <| lq (q_add rfl rfl) rfl <| lq (q_move rfl) rfl <| WL.nil ?_
  refine WT.inLoop (WT.mono (l' := [(1, .pointer (some ⟨b_1, 0, none⟩)), (48, pv0_2), (49, .int .i64 (p0.Acts.length : Int)), (50, .int .i64 (IntKind.i64.wrap (s2 + 1)))]) (S' := St w0 Φ [(b_1, .cells #[.string p0.Name, .int .i64 p0.Sal, pv0_0, pv0_1, pv0_2] 49 (0, 0))] []) ⟨rfl, rfl, rfl, rfl, trivial⟩ (fun w1 hw => (hw.sel (js := []) rfl).selO (js := [1]) rfl) ?_)
  exact ih2 (IntKind.i64.wrap (s2 + 1)) h
 replace h := ite_f h c8
 refine WT.exit rfl <| sr <| lq (q_loadN Tn_49 rfl (fun w1 hw => hw.rgO (i := 0) rfl 0 5 [.string p0.Name, .int .i64 p0.Sal, pv0_0, pv0_1, pv0_2] rfl) rfl) rfl ?_
 obtain ⟨x10, hx10, h⟩ := bind_some h
 refine lc (k_call (js := []) (R := []) Fun_75 rfl rfl (fun w1 hw ap hl => m_i_PosVars_ok hw.fro N p0 ph0_0 ph0_1 ph0_2  hx10)) rfl (fun v2 Φ_1 F3 q1 => ?_)
 obtain ⟨ap1, fr1, v3, rfl, rfl, h2⟩ := q1
 replace ph0_0 := ph0_0.frame RTPat.lasts fr1 (ap1.o pa0_0)
 replace ph0_1 := ph0_1.frame RTCond.lasts fr1 (ap1.o pa0_1)
 replace ph0_2 := ph0_2.frame RTAct.lasts fr1 (ap1.o pa0_2)
 refine lq (q_assign rfl) rfl <| WL.nil <| WT.seq <| sr <| lq (q_loadN Tn_49 rfl (fun w1 hw => hw.rgO (i := 0) rfl 0 5 [.string p0.Name, .int .i64 p0.Sal, pv0_0, pv0_1, pv0_2] rfl) rfl) rfl ?_
 obtain ⟨x11, hx11, h⟩ := bind_some h
 refine lc (k_call (js := []) (R := [ob v2]) Fun_76 rfl rfl (fun w1 hw ap hl => m_i_usedVars_ok hw.fro N p0 ph0_0 ph0_1 ph0_2  hx11)) rfl (fun v4 Φ_2 F4 q2 => ?_)
 obtain ⟨ap2, fr2, v5, rfl, rfl, h3⟩ := q2
 replace h2 := h2.frame RS.lasts fr2 (ap2.r (i := 0) rfl) (Dj.nil _)
 refine lq (q_lenR Sl_137 rfl rfl h3.rsl) rfl <| lq (q_move rfl) rfl <| WL.nil <| WT.block <| WT.loop <| WT.mono (l' := [(7, v2), (73, v4), (74, .int .i64 (x11.length : Int)), (75, .int .i64 0)]) (S' := St w0 Φ_2 [] [ob v4, ob v2]) ⟨rfl, rfl, rfl, rfl, trivial⟩ (fun w1 hw => (hw.sel (js := [0, 0]) rfl).selO (js := []) rfl) ?_
 refine loop_ind (σ := Int) (fun s => [(7, v2), (73, v4), (74, .int .i64 (x11.length : Int)), (75, .int .i64 s)]) (fun s => St w0 Φ_2 [] [ob v4, ob v2]) (fun m s => m_i_RuleOk_l3 N x10 x11 m s = some r) (fun s hm => none_ne (show (none : Option (Bool)) = some r from hm)) (fun n3 ih3 s hm => ?_) N (0) h
 revert hm; revert s; intro s3 hm
 have h : m_i_RuleOk_l3 N x10 x11 (n3 + 1) s3 = some r := hm
 show WT _ _ [(7, v2), (73, v4), (74, .int .i64 (x11.length : Int)), (75, .int .i64 s3)] (St w0 Φ_2 [] [ob v4, ob v2])
 unfold m_i_RuleOk_l3 at h
 refine sr <| lq (q_lss rfl rfl) rfl <| WL.nil <| WT.seq ?_
 refine WT.cond rfl (fun c12 => ?_) (fun c12 => ?_)
 ·replace h := ite_t h c12
  refine WT.skip <| WT.seq <| WT.block <| WT.seq <| WT.region ?_
  obtain ⟨x12, hx12, h⟩ := bind_some h
  obtain ⟨cs3, F5, -, g3, hb3, hs3, r3⟩ := h3.elS (idx_some hx12).2.2
  obtain ⟨rfl, -⟩ := r3
  refine lq (q_indexAddr Sl_137 rfl rfl h3.rsl hx12) rfl <| lq (q_load1 T1_9 rfl (fun w1 hw => (g3.of_eq 0 1 rfl rfl : rg _ _ _ [.string x12]).rangeAt hw.fro)) rfl <| lq (q_assign rfl) rfl <| WL.nil <| sr <| lq (q_move rfl) rfl <| lq (q_move rfl) rfl ?_
  obtain ⟨x13, hx13, h⟩ := bind_some h
  refine lp (p_call Fun_77 rfl (fun w1 hw => m_sl_Contains_Sstring_string_ok hw.fro N x10 x12 h2.rsl hx13)) rfl <| lq (q_not rfl) rfl <| WL.nil ?_
  refine WT.cond rfl (fun c13 => ?_) (fun c13 => ?_)
  ·replace h := ite_t h c13
   refine sr <| lq (q_assign rfl) rfl <| WL.nil ?_
   refine WT.ret Tryz.func26 (resOk.one rfl) (fun w1 hw => ?_)
   subst hb0
   cases h
   exact post_of_St hw
  replace h := ite_f h c13
  refine WT.skip <| WT.inBlock <| WT.region <| lq (q_add rfl rfl) rfl <| lq (q_move rfl) rfl <| WL.nil ?_
  refine WT.inLoop (WT.mono (l' := [(7, v2), (73, v4), (74, .int .i64 (x11.length : Int)), (75, .int .i64 (IntKind.i64.wrap (s3 + 1)))]) (S' := St w0 Φ_2 [] [ob v4, ob v2]) ⟨rfl, rfl, rfl, rfl, trivial⟩ (fun w1 hw => (hw.sel (js := [0, 0]) rfl).selO (js := []) rfl) ?_)
  exact ih3 (IntKind.i64.wrap (s3 + 1)) h
 replace h := ite_f h c12
 refine WT.exit rfl <| sr <| lq (q_assign rfl) rfl <| WL.nil ?_
 refine WT.ret Tryz.func26 (resOk.one rfl) (fun w1 hw => ?_)
 subst hb0
 cases h
 exact post_of_St hw
theorem m_sl_IndexFunc_Si_Rule_i_Rule_ok {Φ : Hp} {w : World} (hΦ : In Φ w) (N : Nat) (p0 : (List TRule)) (p1 : TRule → Option (Bool)) {pv0 : Value} {pG0 : List Nat} {p1f : Nat} {p1fr : List Value} (ph0 : RSl RTRule 5 Φ pG0 pv0 p0) (p1hF : Fun Tryz.prog p1f = true) (p1h : ∀ {Φ' : Hp} {w' : World}, FrH [] Φ Φ' → In Φ' w' → ∀ (p1a0 : TRule) {p1v0_0 : Value} {p1G0_0 : List Nat} {p1v0_1 : Value} {p1G0_1 : List Nat} {p1v0_2 : Value} {p1G0_2 : List Nat} (_ : RSl RTPat 3 Φ' p1G0_0 p1v0_0 p1a0.Pats) (_ : RSl RTCond 11 Φ' p1G0_1 p1v0_1 p1a0.Conds) (_ : RSl RTAct 5 Φ' p1G0_2 p1v0_2 p1a0.Acts) {r : Bool}, p1 p1a0 = some r → Calls Tryz.prog p1f (([.agg [.string p1a0.Name, .int .i64 p1a0.Sal, p1v0_0, p1v0_1, p1v0_2].toArray] : List Value) ++ p1fr).toArray w' (Post (.bool r) w')) {r : Int} (h : m_sl_IndexFunc_Si_Rule_i_Rule N p0 p1 = some r) :
  Calls Tryz.prog 171 [pv0, .func (.func p1f) #[] p1fr.toArray].toArray w (Post (.int .i64 r) w) := by
 refine enter Tryz.func171 rfl Tryz.ntmps171 rfl (St.start0 hΦ) ?_
 generalize hb0 : (⟨w, [], Φ⟩ : Base) = w0
 unfold m_sl_IndexFunc_Si_Rule_i_Rule at h
 refine sr <| lq (q_assign rfl) rfl <| WL.nil <| WT.seq <| sr <| lq (q_move rfl) rfl <| lq (q_lenR Sl_28 rfl rfl ph0) rfl <| lq (q_move rfl) rfl <| WL.nil <| WT.block <| WT.loop <| WT.mono (l' := [(0, pv0), (1, .func (.func p1f) #[] p1fr.toArray), (7, .int .i64 (p0.length : Int)), (8, .int .i64 0)]) (S' := St w0 Φ [] []) ⟨rfl, rfl, rfl, rfl, trivial⟩ (fun w1 hw => (hw.sel (js := []) rfl).selO (js := []) rfl) ?_
 refine loop_ind (σ := Int) (fun s => [(0, pv0), (1, .func (.func p1f) #[] p1fr.toArray), (7, .int .i64 (p0.length : Int)), (8, .int .i64 s)]) (fun s => St w0 Φ [] []) (fun m s => m_sl_IndexFunc_Si_Rule_i_Rule_l1 N p0 p1 m s = some r) (fun s hm => none_ne (show (none : Option (Int)) = some r from hm)) (fun n1 ih1 s hm => ?_) N (0) h
 revert hm; revert s; intro s1 hm
 have h : m_sl_IndexFunc_Si_Rule_i_Rule_l1 N p0 p1 (n1 + 1) s1 = some r := hm
 show WT _ _ [(0, pv0), (1, .func (.func p1f) #[] p1fr.toArray), (7, .int .i64 (p0.length : Int)), (8, .int .i64 s1)] (St w0 Φ [] [])
 unfold m_sl_IndexFunc_Si_Rule_i_Rule_l1 at h
 refine sr <| lq (q_lss rfl rfl) rfl <| WL.nil <| WT.seq ?_
 refine WT.cond rfl (fun c1 => ?_) (fun c1 => ?_)
 ·replace h := ite_t h c1
  refine WT.skip <| WT.seq <| WT.block <| sr <| lq (q_move rfl) rfl <| lq (q_assign rfl) rfl <| WL.nil <| sr <| lq (q_move rfl) rfl <| lq (q_move rfl) rfl <| lq (q_move rfl) rfl ?_
  obtain ⟨x1, hx1, h⟩ := bind_some h
  obtain ⟨cs1, F1, -, g1, hb1, hs1, r1⟩ := ph0.el (idx_some hx1).2.2
  obtain ⟨v1, G1, v2, G2, v3, G3, rfl, rfl, h1, h2, h3⟩ := r1
  refine lq (q_indexAddr Sl_28 rfl rfl ph0 hx1) rfl <| lq (q_loadN Tn_49 rfl (fun w1 hw => (g1.of_eq 0 5 rfl rfl : rg _ _ _ [.string x1.Name, .int .i64 x1.Sal, v1, v2, v3]).rangeAt hw.fro) rfl) rfl ?_
  obtain ⟨x2, hx2, h⟩ := bind_some h
  refine lp (p_callV p1hF rfl rfl (fun w1 hw => p1h (by subst hb0; exact hw.frB hΦ) hw.fro x1 h1 h2 h3 hx2)) rfl <| WL.nil ?_
  refine WT.cond rfl (fun c2 => ?_) (fun c2 => ?_)
  ·replace h := ite_t h c2
   refine sr <| lq (q_move rfl) rfl <| lq (q_assign rfl) rfl <| WL.nil ?_
   refine WT.ret Tryz.func171 (resOk.one rfl) (fun w1 hw => ?_)
   subst hb0
   cases h
   exact post_of_St hw
  replace h := ite_f h c2
  refine WT.skip <| WT.inBlock <| WT.region <| lq (q_add rfl rfl) rfl <| lq (q_move rfl) rfl <| WL.nil ?_
  refine WT.inLoop (WT.mono (l' := [(0, pv0), (1, .func (.func p1f) #[] p1fr.toArray), (7, .int .i64 (p0.length : Int)), (8, .int .i64 (IntKind.i64.wrap (s1 + 1)))]) (S' := St w0 Φ [] []) ⟨rfl, rfl, rfl, rfl, trivial⟩ (fun w1 hw => (hw.sel (js := []) rfl).selO (js := []) rfl) ?_)
  exact ih1 (IntKind.i64.wrap (s1 + 1)) h
 replace h := ite_f h c1
 refine WT.exit rfl <| sr <| lq (q_assign rfl) rfl <| WL.nil ?_
 refine WT.ret Tryz.func171 (resOk.one rfl) (fun w1 hw => ?_)
 subst hb0
 cases h
 exact post_of_St hw
theorem m_i_RuleAt_c1_ok {Φ : Hp} {w : World} (hΦ : In Φ w) (N : Nat) (p0 : TRule) (c0 : ByteArray) {pv0_0 : Value} {pG0_0 : List Nat} {pv0_1 : Value} {pG0_1 : List Nat} {pv0_2 : Value} {pG0_2 : List Nat} {pbc0 : Nat} (ph0_0 : RSl RTPat 3 Φ pG0_0 pv0_0 p0.Pats) (ph0_1 : RSl RTCond 11 Φ pG0_1 pv0_1 p0.Conds) (ph0_2 : RSl RTAct 5 Φ pG0_2 pv0_2 p0.Acts) (ppc0 : Φ pbc0 = some (.cells #[.string c0] 9 (0, 0))) {r : Bool} (h : m_i_RuleAt_c1 N p0 c0 = some r) :
  Calls Tryz.prog 172 [.agg [.string p0.Name, .int .i64 p0.Sal, pv0_0, pv0_1, pv0_2].toArray, .pointer (some ⟨pbc0, 0, none⟩)].toArray w (Post (.bool r) w) := by
 refine enter Tryz.func172 rfl Tryz.ntmps172 rfl (St.start0 hΦ) ?_
 unfold m_i_RuleAt_c1 at h
 refine WT.seq <| WT.region ?_
 refine ln (n_box (C := #[.string p0.Name, .int .i64 p0.Sal, pv0_0, pv0_1, pv0_2]) rfl rfl) rfl (fun b_1 => ?_)
 refine lq (q_assign rfl) rfl <| WL.nil <| sr <| lq (q_fieldAddr Fld_49_0 rfl) rfl <| lq (q_load1 T1_9 rfl (fun w1 hw => hw.rgO (i := 0) rfl 0 1 [.string p0.Name] rfl)) rfl <| lq (q_load1 T1_9 rfl (fun w1 hw => ((rg_cells ppc0).of_eq 0 1 rfl rfl : rg _ _ _ [.string c0]).rangeAt hw.fro)) rfl <| lq (q_seq rfl rfl) rfl <| lq (q_assign rfl) rfl <| WL.nil ?_
 refine WT.ret Tryz.func172 (resOk.one rfl) (fun w1 hw => ?_)
 cases h
 exact post_of_St hw
theorem m_i_RuleAt_ok {Φ : Hp} {w : World} (hΦ : In Φ w) (N : Nat) (p0 : TDef) (p1 : ByteArray) {pv0_0 : Value} {pG0_0 : List Nat} (ph0_0 : RSl RTRule 5 Φ pG0_0 pv0_0 p0.Rules) {r : Int} (h : m_i_RuleAt N p0 p1 = some r) :
  Calls Tryz.prog 107 [.agg [.string p0.Name, pv0_0].toArray, .string p1].toArray w (Post (.int .i64 r) w) := by
 refine enter Tryz.func107 rfl Tryz.ntmps107 rfl (St.start0 hΦ) ?_
 unfold m_i_RuleAt at h
 refine WT.seq <| WT.region ?_
 refine ln (n_box (C := #[.string p0.Name, pv0_0]) rfl rfl) rfl (fun b_1 => ?_)
 refine ln (n_box (C := #[.string p1]) rfl rfl) rfl (fun b_2 => ?_)
 refine lq (q_assign rfl) rfl <| WL.nil <| sr <| lq (q_fieldAddr Fld_30_1 rfl) rfl <| lq (q_load1 T1_28 rfl (fun w1 hw => hw.rgO (i := 1) rfl 1 1 [pv0_0] rfl)) rfl ?_
 refine WL.frz (js := [0]) (R := [(b_1, .cells #[.string p0.Name, pv0_0] 30 (0, 0))]) rfl (fun Φ_1 fr1 k1 => ?_)
 replace ph0_0 := ph0_0.frame RTRule.lasts fr1 (Dj.empty _)
 refine lq (q_makeFunc rfl) rfl ?_
 obtain ⟨x1, hx1, h⟩ := bind_some h
 refine lp (p_call Fun_171 rfl (fun w1 hw => m_sl_IndexFunc_Si_Rule_i_Rule_ok hw.fro N p0.Rules (fun a0 => m_i_RuleAt_c1 N a0 p1) ph0_0 Fun_172 (fun hle' hin a0 => fun f0 f1 f2 => fun hr => m_i_RuleAt_c1_ok hin N a0 p1 f0 f1 f2 (hle' _ _ (by simp) k1) hr) hx1)) rfl <| lq (q_assign rfl) rfl <| WL.nil ?_
 refine WT.ret Tryz.func107 (resOk.one rfl) (fun w1 hw => ?_)
 cases h
 exact post_of_St hw
theorem m_i_DefOk_ok {Φ : Hp} {w : World} (hΦ : In Φ w) (N : Nat) (p0 : TDef) {pv0_0 : Value} {pG0_0 : List Nat} (ph0_0 : RSl RTRule 5 Φ pG0_0 pv0_0 p0.Rules) {r : Bool} (h : m_i_DefOk N p0 = some r) :
  Calls Tryz.prog 49 [.agg [.string p0.Name, pv0_0].toArray].toArray w (Post (.bool r) w) := by
 refine enter Tryz.func49 rfl Tryz.ntmps49 rfl (St.start0 hΦ) ?_
 generalize hb0 : (⟨w, [], Φ⟩ : Base) = w0
 unfold m_i_DefOk at h
 refine WT.seq <| WT.region ?_
 refine ln (n_box (C := #[.string p0.Name, pv0_0]) rfl rfl) rfl (fun b_1 => ?_)
 refine lq (q_assign rfl) rfl <| WL.nil <| WT.seq <| sr <| lq (q_fieldAddr Fld_30_0 rfl) rfl <| lq (q_load1 T1_9 rfl (fun w1 hw => hw.rgO (i := 0) rfl 0 1 [.string p0.Name] rfl)) rfl ?_
 obtain ⟨x1, hx1, h⟩ := bind_some h
 refine lp (p_call Fun_70 rfl (fun w1 hw => m_i_NameOk_ok hw.fro N p0.Name hx1)) rfl <| lq (q_not rfl) rfl <| lq (q_move rfl) rfl ?_
 obtain ⟨b1, hb_1, h⟩ := bind_some h
 refine WL.cutN 6 [(15, .bool b1), (1, .pointer (some ⟨b_1, 0, none⟩))] ?_ (fun K => ?_)
 rotate_left
 ·refine WL.split (d := 9) rfl (fun c1 => ?_) (fun c1 => ?_)
  ·replace hb_1 := ite_t hb_1 c1
   refine WL.no rfl rfl rfl rfl <| WL.no rfl rfl rfl rfl <| WL.no rfl rfl rfl rfl <| WL.no rfl rfl rfl rfl <| WL.no rfl rfl rfl rfl <| WL.q (q_pick1 rfl rfl) rfl rfl rfl ?_
   cases hb_1
   exact WL.keep (by exact ⟨rfl, rfl, trivial⟩) K
  ·replace hb_1 := ite_f hb_1 c1
   refine WL.yes rfl rfl <| lq (q_fieldAddr Fld_30_1 rfl) rfl <| WL.yes rfl rfl <| lq (q_load1 T1_28 rfl (fun w1 hw => hw.rgO (i := 0) rfl 1 1 [pv0_0] rfl)) rfl <| WL.yes rfl rfl <| lq (q_lenR Sl_28 rfl rfl ph0_0) rfl <| WL.yes rfl rfl ?_
   obtain ⟨x2, hx2, hb_1⟩ := bind_some hb_1
   refine lp (p_call Fun_71 rfl (fun w1 hw => m_i_inRange_ok hw.fro N (p0.Rules.length : Int) 1 12 hx2)) rfl <| WL.yes rfl rfl <| lq (q_not rfl) rfl <| WL.q (q_pick0 rfl rfl) rfl rfl rfl ?_
   cases hb_1
   exact WL.keep (by exact ⟨rfl, rfl, trivial⟩) K
 refine WL.nil ?_
 refine WT.cond rfl (fun c2 => ?_) (fun c2 => ?_)
 ·replace h := ite_t h c2
  refine sr <| lq (q_assign rfl) rfl <| WL.nil ?_
  refine WT.ret Tryz.func49 (resOk.one rfl) (fun w1 hw => ?_)
  subst hb0
  cases h
  exact post_of_St hw
 replace h := ite_f h c2
 refine WT.skip <| WT.seq <| sr <| lq (q_fieldAddr Fld_30_1 rfl) rfl <| lq (q_load1 T1_28 rfl (fun w1 hw => hw.rgO (i := 0) rfl 1 1 [pv0_0] rfl)) rfl <| lq (q_lenR Sl_28 rfl rfl ph0_0) rfl <| lq (q_move rfl) rfl <| WL.nil <| WT.block <| WT.loop <| WT.mono (l' := [(1, .pointer (some ⟨b_1, 0, none⟩)), (17, pv0_0), (18, .int .i64 (p0.Rules.length : Int)), (19, .int .i64 0)]) (S' := St w0 Φ [(b_1, .cells #[.string p0.Name, pv0_0] 30 (0, 0))] []) ⟨rfl, rfl, rfl, rfl, trivial⟩ (fun w1 hw => (hw.sel (js := []) rfl).selO (js := [0]) rfl) ?_
 refine loop_ind (σ := Int) (fun s => [(1, .pointer (some ⟨b_1, 0, none⟩)), (17, pv0_0), (18, .int .i64 (p0.Rules.length : Int)), (19, .int .i64 s)]) (fun s => St w0 Φ [(b_1, .cells #[.string p0.Name, pv0_0] 30 (0, 0))] []) (fun m s => m_i_DefOk_l1 N p0 m s = some r) (fun s hm => none_ne (show (none : Option (Bool)) = some r from hm)) (fun n1 ih1 s hm => ?_) N (0) h
 revert hm; revert s; intro s1 hm
 have h : m_i_DefOk_l1 N p0 (n1 + 1) s1 = some r := hm
 show WT _ _ [(1, .pointer (some ⟨b_1, 0, none⟩)), (17, pv0_0), (18, .int .i64 (p0.Rules.length : Int)), (19, .int .i64 s1)] (St w0 Φ [(b_1, .cells #[.string p0.Name, pv0_0] 30 (0, 0))] [])
 unfold m_i_DefOk_l1 at h
 refine sr <| lq (q_lss rfl rfl) rfl <| WL.nil <| WT.seq ?_
 refine WT.cond rfl (fun c3 => ?_) (fun c3 => ?_)
 ·replace h := ite_t h c3
  refine WT.skip <| WT.seq <| WT.block <| sr <| lq (q_move rfl) rfl ?_
  obtain ⟨x3, hx3, h⟩ := bind_some h
  obtain ⟨cs1, F1, -, g1, hb1, hs1, r1⟩ := ph0_0.el (idx_some hx3).2.2
  obtain ⟨v1, G1, v2, G2, v3, G3, rfl, rfl, h1, h2, h3⟩ := r1
  refine lq (q_indexAddr Sl_28 rfl rfl ph0_0 hx3) rfl <| lq (q_loadN Tn_49 rfl (fun w1 hw => (g1.of_eq 0 5 rfl rfl : rg _ _ _ [.string x3.Name, .int .i64 x3.Sal, v1, v2, v3]).rangeAt hw.fro) rfl) rfl ?_
  refine ln (n_alloc (C := #[.string eS, .int .i64 0, .slice none 0 0, .slice none 0 0, .slice none 0 0]) Zr_49 rfl) rfl (fun b_2 => ?_)
  refine lq (q_assign rfl) rfl <| ls (s_store (i := 0) (vs := [.string x3.Name, .int .i64 x3.Sal, v1, v2, v3]) (C' := [.string x3.Name, .int .i64 x3.Sal, v1, v2, v3]) (O' := [(b_2, .cells #[.string x3.Name, .int .i64 x3.Sal, v1, v2, v3] 49 (0, 0)), (b_1, .cells #[.string p0.Name, pv0_0] 30 (0, 0))]) Sz_49 rfl rfl rfl rfl rfl rfl ⟨rfl, rfl, h1.one, h2.one, h3.one, trivial⟩ rfl rfl) rfl <| WL.nil <| sr <| lq (q_loadN Tn_49 rfl (fun w1 hw => hw.rgO (i := 0) rfl 0 5 [.string x3.Name, .int .i64 x3.Sal, v1, v2, v3] rfl) rfl) rfl ?_
  obtain ⟨x4, hx4, h⟩ := bind_some h
  refine lp (p_call Fun_26 rfl (fun w1 hw => m_i_RuleOk_ok hw.fro N x3 h1 h2 h3 hx4)) rfl <| lq (q_not rfl) rfl <| lq (q_move rfl) rfl ?_
  obtain ⟨b2, hb_2, h⟩ := bind_some h
  refine WL.cutN 7 [(34, .bool b2), (1, .pointer (some ⟨b_1, 0, none⟩)), (17, pv0_0), (18, .int .i64 (p0.Rules.length : Int)), (19, .int .i64 s1)] ?_ (fun K => ?_)
  rotate_left
  ·refine WL.split (d := 27) rfl (fun c4 => ?_) (fun c4 => ?_)
   ·replace hb_2 := ite_t hb_2 c4
    refine WL.no rfl rfl rfl rfl <| WL.no rfl rfl rfl rfl <| WL.no rfl rfl rfl rfl <| WL.no rfl rfl rfl rfl <| WL.no rfl rfl rfl rfl <| WL.no rfl rfl rfl rfl <| WL.q (q_pick1 rfl rfl) rfl rfl rfl ?_
    cases hb_2
    exact WL.keep (by exact ⟨rfl, rfl, rfl, rfl, rfl, trivial⟩) K
   ·replace hb_2 := ite_f hb_2 c4
    refine WL.yes rfl rfl <| lq (q_loadN Tn_30 rfl (fun w1 hw => hw.rgO (i := 1) rfl 0 2 [.string p0.Name, pv0_0] rfl) rfl) rfl <| WL.yes rfl rfl <| lq (q_fieldAddr Fld_49_0 rfl) rfl <| WL.yes rfl rfl <| lq (q_load1 T1_9 rfl (fun w1 hw => hw.rgO (i := 0) rfl 0 1 [.string x3.Name] rfl)) rfl <| WL.yes rfl rfl ?_
    obtain ⟨x5, hx5, hb_2⟩ := bind_some hb_2
    refine lp (p_call Fun_107 rfl (fun w1 hw => m_i_RuleAt_ok hw.fro N p0 x3.Name ph0_0 hx5)) rfl <| WL.yes rfl rfl <| lq (q_move rfl) rfl <| WL.yes rfl rfl <| lq (q_neq rfl rfl) rfl <| WL.q (q_pick0 rfl rfl) rfl rfl rfl ?_
    cases hb_2
    exact WL.keep (by exact ⟨rfl, rfl, rfl, rfl, rfl, trivial⟩) K
  refine WL.nil ?_
  refine WT.cond rfl (fun c5 => ?_) (fun c5 => ?_)
  ·replace h := ite_t h c5
   refine sr <| lq (q_assign rfl) rfl <| WL.nil ?_
   refine WT.ret Tryz.func49 (resOk.one rfl) (fun w1 hw => ?_)
   subst hb0
   cases h
   exact post_of_St hw
  replace h := ite_f h c5
  refine WT.skip <| WT.inBlock <| WT.region <| lq (q_add rfl rfl) rfl <| lq (q_move rfl) rfl <| WL.nil ?_
  refine WT.inLoop (WT.mono (l' := [(1, .pointer (some ⟨b_1, 0, none⟩)), (17, pv0_0), (18, .int .i64 (p0.Rules.length : Int)), (19, .int .i64 (IntKind.i64.wrap (s1 + 1)))]) (S' := St w0 Φ [(b_1, .cells #[.string p0.Name, pv0_0] 30 (0, 0))] []) ⟨rfl, rfl, rfl, rfl, trivial⟩ (fun w1 hw => (hw.sel (js := []) rfl).selO (js := [1]) rfl) ?_)
  exact ih1 (IntKind.i64.wrap (s1 + 1)) h
 replace h := ite_f h c3
 refine WT.exit rfl <| sr <| lq (q_assign rfl) rfl <| WL.nil ?_
 refine WT.ret Tryz.func49 (resOk.one rfl) (fun w1 hw => ?_)
 subst hb0
 cases h
 exact post_of_St hw
theorem m_sl_Equal_Si_Val_i_Val_ok {Φ : Hp} {w : World} (hΦ : In Φ w) (N : Nat) (p0 : (List TVal)) (p1 : (List TVal)) {pv0 : Value} {pG0 : List Nat} {pv1 : Value} {pG1 : List Nat} (ph0 : RSl RTVal 3 Φ pG0 pv0 p0) (ph1 : RSl RTVal 3 Φ pG1 pv1 p1) {r : Bool} (h : m_sl_Equal_Si_Val_i_Val N p0 p1 = some r) :
  Calls Tryz.prog 109 [pv0, pv1].toArray w (Post (.bool r) w) := by
 refine enter Tryz.func109 rfl Tryz.ntmps109 rfl (St.start0 hΦ) ?_
 generalize hb0 : (⟨w, [], Φ⟩ : Base) = w0
 unfold m_sl_Equal_Si_Val_i_Val at h
 refine sr <| lq (q_assign rfl) rfl <| WL.nil <| WT.seq <| sr <| lq (q_move rfl) rfl <| lq (q_lenR Sl_100 rfl rfl ph0) rfl <| lq (q_move rfl) rfl <| lq (q_lenR Sl_100 rfl rfl ph1) rfl <| lq (q_neq rfl rfl) rfl <| WL.nil ?_
 refine WT.cond rfl (fun c1 => ?_) (fun c1 => ?_)
 ·replace h := ite_t h c1
  refine sr <| lq (q_assign rfl) rfl <| WL.nil ?_
  refine WT.ret Tryz.func109 (resOk.one rfl) (fun w1 hw => ?_)
  subst hb0
  cases h
  exact post_of_St hw
 replace h := ite_f h c1
 refine WT.skip <| WT.seq <| sr <| lq (q_move rfl) rfl <| lq (q_lenR Sl_100 rfl rfl ph0) rfl <| lq (q_move rfl) rfl <| WL.nil <| WT.block <| WT.loop <| WT.mono (l' := [(0, pv0), (1, pv1), (12, .int .i64 (p0.length : Int)), (13, .int .i64 0)]) (S' := St w0 Φ [] []) ⟨rfl, rfl, rfl, rfl, trivial⟩ (fun w1 hw => (hw.sel (js := []) rfl).selO (js := []) rfl) ?_
 refine loop_ind (σ := Int) (fun s => [(0, pv0), (1, pv1), (12, .int .i64 (p0.length : Int)), (13, .int .i64 s)]) (fun s => St w0 Φ [] []) (fun m s => m_sl_Equal_Si_Val_i_Val_l1 N p0 p1 m s = some r) (fun s hm => none_ne (show (none : Option (Bool)) = some r from hm)) (fun n1 ih1 s hm => ?_) N (0) h
 revert hm; revert s; intro s1 hm
 have h : m_sl_Equal_Si_Val_i_Val_l1 N p0 p1 (n1 + 1) s1 = some r := hm
 show WT _ _ [(0, pv0), (1, pv1), (12, .int .i64 (p0.length : Int)), (13, .int .i64 s1)] (St w0 Φ [] [])
 unfold m_sl_Equal_Si_Val_i_Val_l1 at h
 refine sr <| lq (q_lss rfl rfl) rfl <| WL.nil <| WT.seq ?_
 refine WT.cond rfl (fun c2 => ?_) (fun c2 => ?_)
 ·replace h := ite_t h c2
  refine WT.skip <| WT.seq <| WT.block <| sr <| lq (q_move rfl) rfl <| lq (q_assign rfl) rfl <| WL.nil <| WT.seq <| WT.draw mixed (by kernel_rfl) (fun _ h => h.drew) <| qq (q_move rfl) rfl <| qq (q_move rfl) rfl ?_
  obtain ⟨x1, hx1, h⟩ := bind_some h
  obtain ⟨cs1, F1, -, g1, hb1, hs1, r1⟩ := ph0.el (idx_some hx1).2.2
  obtain ⟨rfl, -⟩ := r1
  refine qq (q_indexAddr Sl_100 rfl rfl ph0 hx1) rfl <| qq (q_loadN Tn_121 rfl (fun w1 hw => (g1.of_eq 0 3 rfl rfl : rg _ _ _ [.int .i64 x1.K, .int .i64 x1.N, .string x1.S]).rangeAt hw.fro) rfl) rfl <| qq (q_move rfl) rfl <| qq (q_move rfl) rfl ?_
  obtain ⟨x2, hx2, h⟩ := bind_some h
  obtain ⟨cs2, F2, -, g2, hb2, hs2, r2⟩ := ph1.el (idx_some hx2).2.2
  obtain ⟨rfl, -⟩ := r2
  refine qq (q_indexAddr Sl_100 rfl rfl ph1 hx2) rfl <| qq (q_loadN Tn_121 rfl (fun w1 hw => (g2.of_eq 0 3 rfl rfl : rg _ _ _ [.int .i64 x2.K, .int .i64 x2.N, .string x2.S]).rangeAt hw.fro) rfl) rfl <| qq (q_neA EqT_121 rfl rfl rfl (r := eqT_TVal x1 x2) rfl) rfl <| WQ.nil ?_
  refine WT.cond rfl (fun c3 => ?_) (fun c3 => ?_)
  ·replace h := ite_t h c3
   refine sr <| lq (q_assign rfl) rfl <| WL.nil ?_
   refine WT.ret Tryz.func109 (resOk.one rfl) (fun w1 hw => ?_)
   subst hb0
   cases h
   exact post_of_St hw
  replace h := ite_f h c3
  refine WT.skip <| WT.inBlock <| WT.region <| lq (q_add rfl rfl) rfl <| lq (q_move rfl) rfl <| WL.nil ?_
  refine WT.inLoop (WT.mono (l' := [(0, pv0), (1, pv1), (12, .int .i64 (p0.length : Int)), (13, .int .i64 (IntKind.i64.wrap (s1 + 1)))]) (S' := St w0 Φ [] []) ⟨rfl, rfl, rfl, rfl, trivial⟩ (fun w1 hw => (hw.sel (js := []) rfl).selO (js := []) rfl) ?_)
  exact ih1 (IntKind.i64.wrap (s1 + 1)) h
 replace h := ite_f h c2
 refine WT.exit rfl <| sr <| lq (q_assign rfl) rfl <| WL.nil ?_
 refine WT.ret Tryz.func109 (resOk.one rfl) (fun w1 hw => ?_)
 subst hb0
 cases h
 exact post_of_St hw
theorem m_sl_Equal_Sint_int_ok {Φ : Hp} {w : World} (hΦ : In Φ w) (N : Nat) (p0 : (List Int)) (p1 : (List Int)) {pv0 : Value} {pG0 : List Nat} {pv1 : Value} {pG1 : List Nat} (ph0 : RSl (RI .i64) 1 Φ pG0 pv0 p0) (ph1 : RSl (RI .i64) 1 Φ pG1 pv1 p1) {r : Bool} (h : m_sl_Equal_Sint_int N p0 p1 = some r) :
  Calls Tryz.prog 110 [pv0, pv1].toArray w (Post (.bool r) w) := by
 refine enter Tryz.func110 rfl Tryz.ntmps110 rfl (St.start0 hΦ) ?_
 generalize hb0 : (⟨w, [], Φ⟩ : Base) = w0
 unfold m_sl_Equal_Sint_int at h
 refine sr <| lq (q_assign rfl) rfl <| WL.nil <| WT.seq <| sr <| lq (q_move rfl) rfl <| lq (q_lenR Sl_41 rfl rfl ph0) rfl <| lq (q_move rfl) rfl <| lq (q_lenR Sl_41 rfl rfl ph1) rfl <| lq (q_neq rfl rfl) rfl <| WL.nil ?_
 refine WT.cond rfl (fun c1 => ?_) (fun c1 => ?_)
 ·replace h := ite_t h c1
  refine sr <| lq (q_assign rfl) rfl <| WL.nil ?_
  refine WT.ret Tryz.func110 (resOk.one rfl) (fun w1 hw => ?_)
  subst hb0
  cases h
  exact post_of_St hw
 replace h := ite_f h c1
 refine WT.skip <| WT.seq <| sr <| lq (q_move rfl) rfl <| lq (q_lenR Sl_41 rfl rfl ph0) rfl <| lq (q_move rfl) rfl <| WL.nil <| WT.block <| WT.loop <| WT.mono (l' := [(0, pv0), (1, pv1), (12, .int .i64 (p0.length : Int)), (13, .int .i64 0)]) (S' := St w0 Φ [] []) ⟨rfl, rfl, rfl, rfl, trivial⟩ (fun w1 hw => (hw.sel (js := []) rfl).selO (js := []) rfl) ?_
 refine loop_ind (σ := Int) (fun s => [(0, pv0), (1, pv1), (12, .int .i64 (p0.length : Int)), (13, .int .i64 s)]) (fun s => St w0 Φ [] []) (fun m s => m_sl_Equal_Sint_int_l1 N p0 p1 m s = some r) (fun s hm => none_ne (show (none : Option (Bool)) = some r from hm)) (fun n1 ih1 s hm => ?_) N (0) h
 revert hm; revert s; intro s1 hm
 have h : m_sl_Equal_Sint_int_l1 N p0 p1 (n1 + 1) s1 = some r := hm
 show WT _ _ [(0, pv0), (1, pv1), (12, .int .i64 (p0.length : Int)), (13, .int .i64 s1)] (St w0 Φ [] [])
 unfold m_sl_Equal_Sint_int_l1 at h
 refine sr <| lq (q_lss rfl rfl) rfl <| WL.nil <| WT.seq ?_
 refine WT.cond rfl (fun c2 => ?_) (fun c2 => ?_)
 ·replace h := ite_t h c2
  refine WT.skip <| WT.seq <| WT.block <| sr <| lq (q_move rfl) rfl <| lq (q_assign rfl) rfl <| WL.nil <| WT.seq <| WT.draw mixed (by kernel_rfl) (fun _ h => h.drew) <| qq (q_move rfl) rfl <| qq (q_move rfl) rfl ?_
  obtain ⟨x1, hx1, h⟩ := bind_some h
  obtain ⟨cs1, F1, -, g1, hb1, hs1, r1⟩ := ph0.el (idx_some hx1).2.2
  obtain ⟨rfl, -⟩ := r1
  refine qq (q_indexAddr Sl_41 rfl rfl ph0 hx1) rfl <| qq (q_load1 T1_3 rfl (fun w1 hw => (g1.of_eq 0 1 rfl rfl : rg _ _ _ [.int .i64 x1]).rangeAt hw.fro)) rfl <| qq (q_move rfl) rfl <| qq (q_move rfl) rfl ?_
  obtain ⟨x2, hx2, h⟩ := bind_some h
  obtain ⟨cs2, F2, -, g2, hb2, hs2, r2⟩ := ph1.el (idx_some hx2).2.2
  obtain ⟨rfl, -⟩ := r2
  refine qq (q_indexAddr Sl_41 rfl rfl ph1 hx2) rfl <| qq (q_load1 T1_3 rfl (fun w1 hw => (g2.of_eq 0 1 rfl rfl : rg _ _ _ [.int .i64 x2]).rangeAt hw.fro)) rfl <| qq (q_neq rfl rfl) rfl <| WQ.nil ?_
  refine WT.cond rfl (fun c3 => ?_) (fun c3 => ?_)
  ·replace h := ite_t h c3
   refine sr <| lq (q_assign rfl) rfl <| WL.nil ?_
   refine WT.ret Tryz.func110 (resOk.one rfl) (fun w1 hw => ?_)
   subst hb0
   cases h
   exact post_of_St hw
  replace h := ite_f h c3
  refine WT.skip <| WT.inBlock <| WT.region <| lq (q_add rfl rfl) rfl <| lq (q_move rfl) rfl <| WL.nil ?_
  refine WT.inLoop (WT.mono (l' := [(0, pv0), (1, pv1), (12, .int .i64 (p0.length : Int)), (13, .int .i64 (IntKind.i64.wrap (s1 + 1)))]) (S' := St w0 Φ [] []) ⟨rfl, rfl, rfl, rfl, trivial⟩ (fun w1 hw => (hw.sel (js := []) rfl).selO (js := []) rfl) ?_)
  exact ih1 (IntKind.i64.wrap (s1 + 1)) h
 replace h := ite_f h c2
 refine WT.exit rfl <| sr <| lq (q_assign rfl) rfl <| WL.nil ?_
 refine WT.ret Tryz.func110 (resOk.one rfl) (fun w1 hw => ?_)
 subst hb0
 cases h
 exact post_of_St hw
theorem m_i_SameAlpha_ok {Φ : Hp} {w : World} (hΦ : In Φ w) (N : Nat) (p0 : TAlpha) (p1 : TAlpha) {pv0_0 : Value} {pG0_0 : List Nat} {pv0_1 : Value} {pG0_1 : List Nat} {pv1_0 : Value} {pG1_0 : List Nat} {pv1_1 : Value} {pG1_1 : List Nat} (ph0_0 : RSl RTVal 3 Φ pG0_0 pv0_0 p0.Consts) (ph0_1 : RSl (RI .i64) 1 Φ pG0_1 pv0_1 p0.At) (ph1_0 : RSl RTVal 3 Φ pG1_0 pv1_0 p1.Consts) (ph1_1 : RSl (RI .i64) 1 Φ pG1_1 pv1_1 p1.At) {r : Bool} (h : m_i_SameAlpha N p0 p1 = some r) :
  Calls Tryz.prog 52 [.agg [.string p0.Kind, .int .i64 p0.N, pv0_0, pv0_1].toArray, .agg [.string p1.Kind, .int .i64 p1.N, pv1_0, pv1_1].toArray].toArray w (Post (.bool r) w) := by
 refine enter Tryz.func52 rfl Tryz.ntmps52 rfl (St.start0 hΦ) ?_
 unfold m_i_SameAlpha at h
 refine WT.seq <| WT.region ?_
 refine ln (n_box (C := #[.string p0.Kind, .int .i64 p0.N, pv0_0, pv0_1]) rfl rfl) rfl (fun b_1 => ?_)
 refine ln (n_box (C := #[.string p1.Kind, .int .i64 p1.N, pv1_0, pv1_1]) rfl rfl) rfl (fun b_2 => ?_)
 refine lq (q_assign rfl) rfl <| WL.nil <| sr <| lq (q_fieldAddr Fld_102_0 rfl) rfl <| lq (q_load1 T1_9 rfl (fun w1 hw => hw.rgO (i := 1) rfl 0 1 [.string p0.Kind] rfl)) rfl <| lq (q_fieldAddr Fld_102_0 rfl) rfl <| lq (q_load1 T1_9 rfl (fun w1 hw => hw.rgO (i := 0) rfl 0 1 [.string p1.Kind] rfl)) rfl <| lq (q_seq rfl rfl) rfl <| lq (q_move rfl) rfl ?_
 obtain ⟨b1, hb_1, h⟩ := bind_some h
 refine WL.cutN 6 [(16, .bool b1), (2, .pointer (some ⟨b_1, 0, none⟩)), (3, .pointer (some ⟨b_2, 0, none⟩)), (4, .bool false)] ?_ (fun K => ?_)
 rotate_left
 ·refine WL.split (d := 10) rfl (fun c1 => ?_) (fun c1 => ?_)
  ·replace hb_1 := ite_t hb_1 c1
   refine WL.yes rfl rfl <| lq (q_fieldAddr Fld_102_1 rfl) rfl <| WL.yes rfl rfl <| lq (q_load1 T1_3 rfl (fun w1 hw => hw.rgO (i := 1) rfl 1 1 [.int .i64 p0.N] rfl)) rfl <| WL.yes rfl rfl <| lq (q_fieldAddr Fld_102_1 rfl) rfl <| WL.yes rfl rfl <| lq (q_load1 T1_3 rfl (fun w1 hw => hw.rgO (i := 0) rfl 1 1 [.int .i64 p1.N] rfl)) rfl <| WL.yes rfl rfl <| lq (q_eql rfl rfl) rfl <| WL.q (q_pick1 rfl rfl) rfl rfl rfl ?_
   cases hb_1
   exact WL.keep (by exact ⟨rfl, rfl, rfl, rfl, trivial⟩) K
  ·replace hb_1 := ite_f hb_1 c1
   refine WL.no rfl rfl rfl rfl <| WL.no rfl rfl rfl rfl <| WL.no rfl rfl rfl rfl <| WL.no rfl rfl rfl rfl <| WL.no rfl rfl rfl rfl <| WL.q (q_pick0 rfl rfl) rfl rfl rfl ?_
   cases hb_1
   exact WL.keep (by exact ⟨rfl, rfl, rfl, rfl, trivial⟩) K
 refine lq (q_move rfl) rfl ?_
 obtain ⟨b2, hb_2, h⟩ := bind_some h
 refine WL.cutN 6 [(23, .bool b2), (2, .pointer (some ⟨b_1, 0, none⟩)), (3, .pointer (some ⟨b_2, 0, none⟩)), (4, .bool false)] ?_ (fun K => ?_)
 rotate_left
 ·refine WL.split (d := 17) rfl (fun c2 => ?_) (fun c2 => ?_)
  ·replace hb_2 := ite_t hb_2 c2
   refine WL.yes rfl rfl <| lq (q_fieldAddr Fld_102_2 rfl) rfl <| WL.yes rfl rfl <| lq (q_load1 T1_100 rfl (fun w1 hw => hw.rgO (i := 1) rfl 2 1 [pv0_0] rfl)) rfl <| WL.yes rfl rfl <| lq (q_fieldAddr Fld_102_2 rfl) rfl <| WL.yes rfl rfl <| lq (q_load1 T1_100 rfl (fun w1 hw => hw.rgO (i := 0) rfl 2 1 [pv1_0] rfl)) rfl <| WL.yes rfl rfl ?_
   obtain ⟨x1, hx1, hb_2⟩ := bind_some hb_2
   refine lp (p_call Fun_109 rfl (fun w1 hw => m_sl_Equal_Si_Val_i_Val_ok hw.fro N p0.Consts p1.Consts ph0_0 ph1_0 hx1)) rfl <| WL.q (q_pick1 rfl rfl) rfl rfl rfl ?_
   cases hb_2
   exact WL.keep (by exact ⟨rfl, rfl, rfl, rfl, trivial⟩) K
  ·replace hb_2 := ite_f hb_2 c2
   refine WL.no rfl rfl rfl rfl <| WL.no rfl rfl rfl rfl <| WL.no rfl rfl rfl rfl <| WL.no rfl rfl rfl rfl <| WL.no rfl rfl rfl rfl <| WL.q (q_pick0 rfl rfl) rfl rfl rfl ?_
   cases hb_2
   exact WL.keep (by exact ⟨rfl, rfl, rfl, rfl, trivial⟩) K
 refine lq (q_move rfl) rfl ?_
 obtain ⟨b3, hb_3, h⟩ := bind_some h
 refine WL.cutN 6 [(30, .bool b3), (4, .bool false)] ?_ (fun K => ?_)
 rotate_left
 ·refine WL.split (d := 24) rfl (fun c3 => ?_) (fun c3 => ?_)
  ·replace hb_3 := ite_t hb_3 c3
   refine WL.yes rfl rfl <| lq (q_fieldAddr Fld_102_3 rfl) rfl <| WL.yes rfl rfl <| lq (q_load1 T1_41 rfl (fun w1 hw => hw.rgO (i := 1) rfl 3 1 [pv0_1] rfl)) rfl <| WL.yes rfl rfl <| lq (q_fieldAddr Fld_102_3 rfl) rfl <| WL.yes rfl rfl <| lq (q_load1 T1_41 rfl (fun w1 hw => hw.rgO (i := 0) rfl 3 1 [pv1_1] rfl)) rfl <| WL.yes rfl rfl ?_
   obtain ⟨x2, hx2, hb_3⟩ := bind_some hb_3
   refine lp (p_call Fun_110 rfl (fun w1 hw => m_sl_Equal_Sint_int_ok hw.fro N p0.At p1.At ph0_1 ph1_1 hx2)) rfl <| WL.q (q_pick1 rfl rfl) rfl rfl rfl ?_
   cases hb_3
   exact WL.keep (by exact ⟨rfl, rfl, trivial⟩) K
  ·replace hb_3 := ite_f hb_3 c3
   refine WL.no rfl rfl rfl rfl <| WL.no rfl rfl rfl rfl <| WL.no rfl rfl rfl rfl <| WL.no rfl rfl rfl rfl <| WL.no rfl rfl rfl rfl <| WL.q (q_pick0 rfl rfl) rfl rfl rfl ?_
   cases hb_3
   exact WL.keep (by exact ⟨rfl, rfl, trivial⟩) K
 refine lq (q_assign rfl) rfl <| WL.nil ?_
 refine WT.ret Tryz.func52 (resOk.one rfl) (fun w1 hw => ?_)
 cases h
 exact post_of_St hw
theorem m_i_AlphaOf_ok {Φ : Hp} {w : World} (hΦ : In Φ w) (N : Nat) (p0 : TPat) {pv0_0 : Value} {pG0_0 : List Nat} (ph0_0 : RSl RTArg 5 Φ pG0_0 pv0_0 p0.Args) {r : TAlpha} (h : m_i_AlphaOf N p0 = some r) :
  Calls Tryz.prog 173 [.agg [.string p0.Kind, pv0_0, .bool p0.Not].toArray].toArray w (PostG Φ w [] (fun Φ' Fs v => ∃ (sr_0_0 : Value) (sr_0_1 : Value), v = .agg [.string r.Kind, .int .i64 r.N, sr_0_0, sr_0_1].toArray ∧ Fs = [ob sr_0_0, ob sr_0_1] ∧ OSl RTVal 121 3 Φ' [] sr_0_0 r.Consts ∧ OSl (RI .i64) 3 1 Φ' [] sr_0_1 r.At)) := by
 refine enter Tryz.func173 rfl Tryz.ntmps173 rfl (St.start0 hΦ) ?_
 have pa0_0 : Old ⟨w, [], Φ⟩ pG0_0 := Old.mk hΦ ph0_0.kn (Dj.empty _)
 revert pa0_0
 generalize hb0 : (⟨w, [], Φ⟩ : Base) = w0
 intro pa0_0
 unfold m_i_AlphaOf at h
 refine WT.seq <| WT.region ?_
 refine ln (n_box (C := #[.string p0.Kind, pv0_0, .bool p0.Not]) rfl rfl) rfl (fun b_1 => ?_)
 refine ln (n_alloc (C := #[.string eS, .int .i64 0, .slice none 0 0, .slice none 0 0]) Zr_102 rfl) rfl (fun b_2 => ?_)
 refine WL.nil <| sr <| lq (q_fieldAddr Fld_114_0 rfl) rfl <| lq (q_load1 T1_9 rfl (fun w1 hw => hw.rgO (i := 1) rfl 0 1 [.string p0.Kind] rfl)) rfl <| lq (q_fieldAddr Fld_114_1 rfl) rfl <| lq (q_load1 T1_112 rfl (fun w1 hw => hw.rgO (i := 1) rfl 1 1 [pv0_0] rfl)) rfl <| lq (q_lenR Sl_112 rfl rfl ph0_0) rfl <| lq (q_build (vs := [(0, .string p0.Kind), (1, .int .i64 (p0.Args.length : Int))]) (C := #[.string p0.Kind, .int .i64 (p0.Args.length : Int), .slice none 0 0, .slice none 0 0]) Pl_102 Zr_102 rfl (fill_cons (cells := [.string ⟨#[]⟩, .int .i64 0, .slice none 0 0, .slice none 0 0]) (c := [.string p0.Kind]) (C' := [.string p0.Kind, .int .i64 0, .slice none 0 0, .slice none 0 0]) rfl rfl rfl rfl rfl (fill_cons (cells := [.string p0.Kind, .int .i64 0, .slice none 0 0, .slice none 0 0]) (c := [.int .i64 (p0.Args.length : Int)]) (C' := [.string p0.Kind, .int .i64 (p0.Args.length : Int), .slice none 0 0, .slice none 0 0]) rfl rfl rfl rfl rfl (fill_nil)))) rfl ?_
 refine ln (n_alloc (C := #[.string eS, .int .i64 0, .slice none 0 0, .slice none 0 0]) Zr_102 rfl) rfl (fun b_3 => ?_)
 refine ls (s_store (i := 0) (vs := [.string p0.Kind, .int .i64 (p0.Args.length : Int), .slice none 0 0, .slice none 0 0]) (C' := [.string p0.Kind, .int .i64 (p0.Args.length : Int), .slice none 0 0, .slice none 0 0]) (O' := [(b_3, .cells #[.string p0.Kind, .int .i64 (p0.Args.length : Int), .slice none 0 0, .slice none 0 0] 102 (0, 0)), (b_2, .cells #[.string eS, .int .i64 0, .slice none 0 0, .slice none 0 0] 102 (0, 0)), (b_1, .cells #[.string p0.Kind, pv0_0, .bool p0.Not] 114 (0, 0))]) Sz_102 rfl rfl rfl rfl rfl rfl ⟨rfl, rfl, rfl, rfl, trivial⟩ rfl rfl) rfl ?_
 refine WL.nil <| WT.seq <| sr <| lq (q_fieldAddr Fld_114_1 rfl) rfl <| lq (q_load1 T1_112 rfl (fun w1 hw => hw.rgO (i := 2) rfl 1 1 [pv0_0] rfl)) rfl <| lq (q_lenR Sl_112 rfl rfl ph0_0) rfl <| lq (q_move rfl) rfl <| WL.nil <| WT.block <| WT.loop <| WT.conv (S' := St w0 Φ [(b_3, .cells #[.string p0.Kind, .int .i64 (p0.Args.length : Int), .slice none 0 0, .slice none 0 0] 102 (0, 0)), (b_2, .cells #[.string eS, .int .i64 0, .slice none 0 0, .slice none 0 0] 102 (0, 0)), (b_1, .cells #[.string p0.Kind, pv0_0, .bool p0.Not] 114 (0, 0))] (ob (.slice none 0 0) :: [])) (fun w1 hw => hw.addNil) ?_
 have k1 := OSl.nil RTVal 121 3 Φ
 refine WT.conv (S' := St w0 Φ [(b_3, .cells #[.string p0.Kind, .int .i64 (p0.Args.length : Int), (.slice none 0 0), .slice none 0 0] 102 (0, 0)), (b_2, .cells #[.string eS, .int .i64 0, .slice none 0 0, .slice none 0 0] 102 (0, 0)), (b_1, .cells #[.string p0.Kind, pv0_0, .bool p0.Not] 114 (0, 0))] (ob (.slice none 0 0) :: [ob (.slice none 0 0)])) (fun w1 hw => hw.addNil) ?_
 have k2 := OSl.nil (RI .i64) 3 1 Φ
 refine WT.mono (l' := [(2, .pointer (some ⟨b_2, 0, none⟩)), (3, .pointer (some ⟨b_3, 0, none⟩)), (13, pv0_0), (14, .int .i64 (p0.Args.length : Int)), (15, .int .i64 0)]) (S' := St w0 Φ [(b_3, .cells #[.string p0.Kind, .int .i64 (p0.Args.length : Int), (.slice none 0 0), (.slice none 0 0)] 102 (0, 0)), (b_2, .cells #[.string eS, .int .i64 0, .slice none 0 0, .slice none 0 0] 102 (0, 0))] [ob (.slice none 0 0), ob (.slice none 0 0)]) ⟨rfl, rfl, rfl, rfl, rfl, trivial⟩ (fun w1 hw => (hw.sel (js := [0, 0]) rfl).selO (js := [0, 0]) rfl) ?_
 refine loop_ind (σ := Hp × (List TVal) × Value × (List Int) × Value × Int) (fun s => [(2, .pointer (some ⟨b_2, 0, none⟩)), (3, .pointer (some ⟨b_3, 0, none⟩)), (13, pv0_0), (14, .int .i64 (p0.Args.length : Int)), (15, .int .i64 s.2.2.2.2.2)]) (fun s => St w0 s.1 [(b_3, .cells #[.string p0.Kind, .int .i64 (p0.Args.length : Int), s.2.2.1, s.2.2.2.2.1] 102 (0, 0)), (b_2, .cells #[.string eS, .int .i64 0, .slice none 0 0, .slice none 0 0] 102 (0, 0))] [ob s.2.2.2.2.1, ob s.2.2.1]) (fun m s => m_i_AlphaOf_l1 N p0 m s.2.1 s.2.2.2.1 s.2.2.2.2.2 = some r ∧ (OSl RTVal 121 3 s.1 [] s.2.2.1 s.2.1) ∧ (OSl (RI .i64) 3 1 s.1 [] s.2.2.2.2.1 s.2.2.2.1) ∧ (RSl RTArg 5 s.1 pG0_0 pv0_0 p0.Args)) (fun s hm => none_ne (show (none : Option (TAlpha)) = some r from hm.1)) (fun n1 ih1 s hm => ?_) N (Φ, ([] : List TVal), (.slice none 0 0), ([] : List Int), (.slice none 0 0), 0) ⟨h, k1, k2, ph0_0⟩
 obtain ⟨Φ_1, s1, u1, s2, u2, s3⟩ := s
 obtain ⟨h, k3, k4, ph0_0⟩ := hm
 replace h : m_i_AlphaOf_l1 N p0 (n1 + 1) s1 s2 s3 = some r := h
 replace k3 : OSl RTVal 121 3 Φ_1 [] u1 s1 := k3
 replace k4 : OSl (RI .i64) 3 1 Φ_1 [] u2 s2 := k4
 replace ph0_0 : RSl RTArg 5 Φ_1 pG0_0 pv0_0 p0.Args := ph0_0
 show WT _ _ [(2, .pointer (some ⟨b_2, 0, none⟩)), (3, .pointer (some ⟨b_3, 0, none⟩)), (13, pv0_0), (14, .int .i64 (p0.Args.length : Int)), (15, .int .i64 s3)] (St w0 Φ_1 [(b_3, .cells #[.string p0.Kind, .int .i64 (p0.Args.length : Int), u1, u2] 102 (0, 0)), (b_2, .cells #[.string eS, .int .i64 0, .slice none 0 0, .slice none 0 0] 102 (0, 0))] [ob u2, ob u1])
 unfold m_i_AlphaOf_l1 at h
 refine sr <| lq (q_lss rfl rfl) rfl <| WL.nil <| WT.seq ?_
 refine WT.cond rfl (fun c1 => ?_) (fun c1 => ?_)
 ·replace h := ite_t h c1
  refine WT.skip <| WT.seq <| WT.block <| sr <| lq (q_move rfl) rfl ?_
  obtain ⟨x1, hx1, h⟩ := bind_some h
  obtain ⟨cs1, F1, -, g1, hb1, hs1, r1⟩ := ph0_0.el (idx_some hx1).2.2
  obtain ⟨rfl, -⟩ := r1
  refine lq (q_indexAddr Sl_112 rfl rfl ph0_0 hx1) rfl <| lq (q_loadN Tn_126 rfl (fun w1 hw => (g1.of_eq 0 5 rfl rfl : rg _ _ _ [.int .i64 x1.K, .string x1.S, .int .i64 x1.V.K, .int .i64 x1.V.N, .string x1.V.S]).rangeAt hw.fro) rfl) rfl ?_
  refine ln (n_alloc (C := #[.int .i64 0, .string eS, .int .i64 0, .int .i64 0, .string eS]) Zr_126 rfl) rfl (fun b_4 => ?_)
  refine lq (q_assign rfl) rfl <| ls (s_store (i := 0) (vs := [.int .i64 x1.K, .string x1.S, .int .i64 x1.V.K, .int .i64 x1.V.N, .string x1.V.S]) (C' := [.int .i64 x1.K, .string x1.S, .int .i64 x1.V.K, .int .i64 x1.V.N, .string x1.V.S]) (O' := [(b_4, .cells #[.int .i64 x1.K, .string x1.S, .int .i64 x1.V.K, .int .i64 x1.V.N, .string x1.V.S] 126 (0, 0)), (b_3, .cells #[.string p0.Kind, .int .i64 (p0.Args.length : Int), u1, u2] 102 (0, 0)), (b_2, .cells #[.string eS, .int .i64 0, .slice none 0 0, .slice none 0 0] 102 (0, 0))]) Sz_126 rfl rfl rfl rfl rfl rfl ⟨rfl, rfl, rfl, rfl, rfl, trivial⟩ rfl rfl) rfl ?_
  refine WL.nil <| sr <| lq (q_fieldAddr Fld_126_0 rfl) rfl <| lq (q_load1 T1_3 rfl (fun w1 hw => hw.rgO (i := 0) rfl 0 1 [.int .i64 x1.K] rfl)) rfl <| lq (q_eql rfl rfl) rfl <| WL.nil ?_
  refine WT.cond rfl (fun c2 => ?_) (fun c2 => ?_)
  ·replace h := ite_t h c2
   refine sr <| lq (q_fieldAddr Fld_102_2 rfl) rfl <| lq (q_load1 T1_100 rfl (fun w1 hw => hw.rgO (i := 1) rfl 2 1 [u1] rfl)) rfl <| lq (q_fieldAddr Fld_126_2 rfl) rfl <| lq (q_loadN Tn_121 rfl (fun w1 hw => hw.rgO (i := 0) rfl 2 3 [.int .i64 x1.V.K, .int .i64 x1.V.N, .string x1.V.S] rfl) rfl) rfl ?_
   have rc1 : RC RTVal 3 Φ_1 ([[]] : List (List Nat)) [.int .i64 x1.V.K, .int .i64 x1.V.N, .string x1.V.S] ([x1.V] : List TVal) := RC.cons (c := [.int .i64 x1.V.K, .int .i64 x1.V.N, .string x1.V.S]) (cells := []) ⟨rfl, rfl⟩ rfl (RC.nil _ _ _)
   refine le' (e_lit (vs := [(0, .agg [.int .i64 x1.V.K, .int .i64 x1.V.N, .string x1.V.S].toArray)]) (C := #[.int .i64 x1.V.K, .int .i64 x1.V.N, .string x1.V.S]) RTVal.lasts Sl_100 Zr_121 rfl rfl rfl rfl (fill_made MC_121_1 (fill_cons (cells := [.int .i64 0, .int .i64 0, .string ⟨#[]⟩]) (c := [.int .i64 x1.V.K, .int .i64 x1.V.N, .string x1.V.S]) (C' := [.int .i64 x1.V.K, .int .i64 x1.V.N, .string x1.V.S]) rfl rfl rfl rfl rfl (fill_nil))) rfl rc1 rfl (by simpa using Kw.nil)) rfl (fun v1 Φ_2 D1 q1 => ?_)
   obtain ⟨fr1, h1⟩ := q1
   replace h1 : OSl RTVal 121 3 Φ_2 [] v1 ([x1.V] : List TVal) := by simpa using h1
   replace ph0_0 := ph0_0.frame RTArg.lasts fr1 (Dj.empty _)
   replace k3 := k3.frame RTVal.lasts fr1 (Dj.empty _) (Dj.empty _)
   replace k4 := k4.frame RI.lasts fr1 (Dj.empty _) (Dj.empty _)
   obtain ⟨x2, hx2, h⟩ := bind_some h
   refine le' (e_appF RTVal.lasts RTVal.one RTVal.flat Sl_100 Ei_121 rfl rfl rfl rfl rfl (js := [2]) (Rr := [ob v1, ob u2]) rfl k3 h1.rsl hx2) rfl (fun v2 Φ_3 D2 q2 => ?_)
   obtain ⟨⟨ap1, fr2⟩, h2⟩ := q2
   replace ph0_0 := ph0_0.frame RTArg.lasts fr2 (ap1.o pa0_0)
   replace k4 := k4.frame RI.lasts fr2 (ap1.r (i := 1) rfl) (Dj.nil _)
   refine lq (q_fieldAddr Fld_102_2 rfl) rfl <| ls (s_store (i := 1) (vs := [v2]) (C' := [.string p0.Kind, .int .i64 (p0.Args.length : Int), v2, u2]) (O' := [(b_4, .cells #[.int .i64 x1.K, .string x1.S, .int .i64 x1.V.K, .int .i64 x1.V.N, .string x1.V.S] 126 (0, 0)), (b_3, .cells #[.string p0.Kind, .int .i64 (p0.Args.length : Int), v2, u2] 102 (0, 0)), (b_2, .cells #[.string eS, .int .i64 0, .slice none 0 0, .slice none 0 0] 102 (0, 0))]) Sz_100 rfl rfl rfl (one_cells h2.one) rfl rfl ⟨h2.one, trivial⟩ rfl rfl) rfl ?_
   refine WL.nil <| WT.region <| lq (q_fieldAddr Fld_102_3 rfl) rfl <| lq (q_load1 T1_41 rfl (fun w1 hw => hw.rgO (i := 1) rfl 3 1 [u2] rfl)) rfl <| lq (q_move rfl) rfl ?_
   have rc2 : RC (RI .i64) 1 Φ_3 ([[]] : List (List Nat)) [.int .i64 s3] ([s3] : List Int) := RC.cons (c := [.int .i64 s3]) (cells := []) ⟨rfl, rfl⟩ rfl (RC.nil _ _ _)
   refine le' (e_lit (vs := [(0, .int .i64 s3)]) (C := #[.int .i64 s3]) RI.lasts Sl_41 Zr_3 rfl rfl rfl rfl (fill_made MC_3_1 (fill_cons (cells := [.int .i64 0]) (c := [.int .i64 s3]) (C' := [.int .i64 s3]) rfl rfl rfl rfl rfl (fill_nil))) rfl rc2 rfl (by simpa using Kw.nil)) rfl (fun v3 Φ_4 D3 q3 => ?_)
   obtain ⟨fr3, h3⟩ := q3
   replace h3 : OSl (RI .i64) 3 1 Φ_4 [] v3 ([s3] : List Int) := by simpa using h3
   replace ph0_0 := ph0_0.frame RTArg.lasts fr3 (Dj.empty _)
   replace h2 := h2.frame RTVal.lasts fr3 (Dj.empty _) (Dj.empty _)
   replace k4 := k4.frame RI.lasts fr3 (Dj.empty _) (Dj.empty _)
   obtain ⟨x3, hx3, h⟩ := bind_some h
   refine le' (e_appF RI.lasts RI.one RI.flat Sl_41 Ei_3 rfl rfl rfl rfl rfl (js := [3]) (Rr := [ob v3, ob v2, ob v1]) rfl k4 h3.rsl hx3) rfl (fun v4 Φ_5 D4 q4 => ?_)
   obtain ⟨⟨ap2, fr4⟩, h4⟩ := q4
   replace ph0_0 := ph0_0.frame RTArg.lasts fr4 (ap2.o pa0_0)
   replace h2 := h2.frame RTVal.lasts fr4 (ap2.r (i := 1) rfl) (Dj.nil _)
   refine lq (q_fieldAddr Fld_102_3 rfl) rfl <| ls (s_store (i := 1) (vs := [v4]) (C' := [.string p0.Kind, .int .i64 (p0.Args.length : Int), v2, v4]) (O' := [(b_4, .cells #[.int .i64 x1.K, .string x1.S, .int .i64 x1.V.K, .int .i64 x1.V.N, .string x1.V.S] 126 (0, 0)), (b_3, .cells #[.string p0.Kind, .int .i64 (p0.Args.length : Int), v2, v4] 102 (0, 0)), (b_2, .cells #[.string eS, .int .i64 0, .slice none 0 0, .slice none 0 0] 102 (0, 0))]) Sz_41 rfl rfl rfl (one_cells h4.one) rfl rfl ⟨h4.one, trivial⟩ rfl rfl) rfl ?_
   refine WL.nil <| WT.inBlock <| WT.region <| lq (q_add rfl rfl) rfl <| lq (q_move rfl) rfl <| WL.nil ?_
   refine WT.inLoop (WT.mono (l' := [(2, .pointer (some ⟨b_2, 0, none⟩)), (3, .pointer (some ⟨b_3, 0, none⟩)), (13, pv0_0), (14, .int .i64 (p0.Args.length : Int)), (15, .int .i64 (IntKind.i64.wrap (s3 + 1)))]) (S' := St w0 Φ_5 [(b_3, .cells #[.string p0.Kind, .int .i64 (p0.Args.length : Int), v2, v4] 102 (0, 0)), (b_2, .cells #[.string eS, .int .i64 0, .slice none 0 0, .slice none 0 0] 102 (0, 0))] [ob v4, ob v2]) ⟨rfl, rfl, rfl, rfl, rfl, trivial⟩ (fun w1 hw => (hw.sel (js := [0, 1]) rfl).selO (js := [1, 1]) rfl) ?_)
   exact ih1 (Φ_5, x2, v2, x3, v4, IntKind.i64.wrap (s3 + 1)) ⟨h, h2, h4, ph0_0⟩
  replace h := ite_f h c2
  refine WT.skip <| WT.inBlock <| WT.region <| lq (q_add rfl rfl) rfl <| lq (q_move rfl) rfl <| WL.nil ?_
  refine WT.inLoop (WT.mono (l' := [(2, .pointer (some ⟨b_2, 0, none⟩)), (3, .pointer (some ⟨b_3, 0, none⟩)), (13, pv0_0), (14, .int .i64 (p0.Args.length : Int)), (15, .int .i64 (IntKind.i64.wrap (s3 + 1)))]) (S' := St w0 Φ_1 [(b_3, .cells #[.string p0.Kind, .int .i64 (p0.Args.length : Int), u1, u2] 102 (0, 0)), (b_2, .cells #[.string eS, .int .i64 0, .slice none 0 0, .slice none 0 0] 102 (0, 0))] [ob u2, ob u1]) ⟨rfl, rfl, rfl, rfl, rfl, trivial⟩ (fun w1 hw => (hw.sel (js := [0, 0]) rfl).selO (js := [1, 1]) rfl) ?_)
  exact ih1 (Φ_1, s1, u1, s2, u2, IntKind.i64.wrap (s3 + 1)) ⟨h, k3, k4, ph0_0⟩
 replace h := ite_f h c1
 refine WT.exit rfl <| sr <| lq (q_loadN Tn_102 rfl (fun w1 hw => hw.rgO (i := 0) rfl 0 4 [.string p0.Kind, .int .i64 (p0.Args.length : Int), u1, u2] rfl) rfl) rfl <| ls (s_store (i := 1) (vs := [.string p0.Kind, .int .i64 (p0.Args.length : Int), u1, u2]) (C' := [.string p0.Kind, .int .i64 (p0.Args.length : Int), u1, u2]) (O' := [(b_3, .cells #[.string p0.Kind, .int .i64 (p0.Args.length : Int), u1, u2] 102 (0, 0)), (b_2, .cells #[.string p0.Kind, .int .i64 (p0.Args.length : Int), u1, u2] 102 (0, 0))]) Sz_102 rfl rfl rfl rfl rfl rfl ⟨rfl, rfl, k3.one, k4.one, trivial⟩ rfl rfl) rfl ?_
 refine WL.nil ?_
 refine WT.ret Tryz.func173 (resOk.one (rv_cell Tn_102 rfl (fun w1 hw => hw.rgO (i := 1) rfl 0 4 [.string p0.Kind, .int .i64 (p0.Args.length : Int), u1, u2] rfl) rfl)) (fun w1 hw => ?_)
 subst hb0
 cases h
 refine postG_of_St (js := [1, 0]) hw rfl ⟨u1, u2, rfl, rfl, k3, k4⟩
theorem m_i_Net_alphaAt_ok {Φ : Hp} {w : World} (hΦ : In Φ w) (N : Nat) (p0 : TNet) (p1 : TPat) {pv0_0 : Value} {pD0_0 : List Nat} {pv0_1 : Value} {pG0_1 : List Nat} {pb0 : Nat} {pv1_0 : Value} {pG1_0 : List Nat} (ph0_0 : OSl OTAlpha 102 4 Φ pD0_0 pv0_0 p0.Alphas) (ph0_1 : RSl RTChain 2 Φ pG0_1 pv0_1 p0.Chains) (pp0 : Φ pb0 = some (.cells #[pv0_0, pv0_1] 27 (0, 0))) (ph1_0 : RSl RTArg 5 Φ pG1_0 pv1_0 p1.Args) (pd0_1 : Dj pG0_1 [[pb0], ob pv0_0, pD0_0].flatten) (pd1_0 : Dj pG1_0 [[pb0], ob pv0_0, pD0_0].flatten) (hB : [[pb0], ob pv0_0, pD0_0].flatten.Nodup) (hlt : ∀ k ∈ [[pb0], ob pv0_0, pD0_0].flatten, k < w.heap.size) {r : Int × TNet} (h : m_i_Net_alphaAt N p0 p1 = some r) :
  Calls Tryz.prog 108 [.pointer (some ⟨pb0, 0, none⟩), .agg [.string p1.Kind, pv1_0, .bool p1.Not].toArray].toArray w (PostG Φ w [[pb0], ob pv0_0, pD0_0].flatten (fun Φ' Fs v => ∃ (so_0_0 : Value) (Do_0_0 : List Nat), v = .int .i64 r.1 ∧ Fs = [[pb0], ob so_0_0, Do_0_0] ∧ OSl OTAlpha 102 4 Φ' Do_0_0 so_0_0 r.2.Alphas ∧ r.2.Chains = p0.Chains ∧ Φ' pb0 = some (.cells #[so_0_0, pv0_1] 27 (0, 0)))) := by
 refine enter Tryz.func108 rfl Tryz.ntmps108 rfl (St.start hΦ [[pb0], ob pv0_0, pD0_0] hB hlt) ?_
 have pa0_1 : Old ⟨w, [[pb0], ob pv0_0, pD0_0].flatten, Φ⟩ pG0_1 := Old.mk hΦ ph0_1.kn pd0_1
 revert pa0_1
 generalize hb0 : (⟨w, [[pb0], ob pv0_0, pD0_0].flatten, Φ⟩ : Base) = w0
 intro pa0_1
 unfold m_i_Net_alphaAt at h
 refine WT.seq <| WT.region ?_
 refine ln (n_box (C := #[.string p1.Kind, pv1_0, .bool p1.Not]) rfl rfl) rfl (fun b_1 => ?_)
 refine lq (q_assign rfl) rfl <| WL.nil <| sr <| lq (q_loadN Tn_114 rfl (fun w1 hw => hw.rgO (i := 0) rfl 0 3 [.string p1.Kind, pv1_0, .bool p1.Not] rfl) rfl) rfl ?_
 obtain ⟨x1, hx1, h⟩ := bind_some h
 refine lc (k_call (js := []) (R := [[pb0], ob pv0_0, pD0_0]) Fun_173 rfl rfl (fun w1 hw ap hl => m_i_AlphaOf_ok hw.fro N p1 ph1_0  hx1)) rfl (fun v1 Φ_1 F1 q1 => ?_)
 obtain ⟨ap1, fr1, v2, v3, rfl, rfl, h1, h2⟩ := q1
 replace ph0_1 := ph0_1.frame RTChain.lasts fr1 (ap1.o pa0_1)
 replace ph0_0 := ph0_0.frame OTAlpha.lasts fr1 (ap1.r (i := 1) rfl) (ap1.r (i := 2) rfl)
 replace pp0 := fr1 _ _ ((ap1.r (i := 0) rfl) _ (by simp)) pp0
 refine ln (n_alloc (C := #[.string eS, .int .i64 0, .slice none 0 0, .slice none 0 0]) Zr_102 rfl) rfl (fun b_2 => ?_)
 refine ls (s_store (i := 0) (vs := [.string x1.Kind, .int .i64 x1.N, v2, v3]) (C' := [.string x1.Kind, .int .i64 x1.N, v2, v3]) (O' := [(b_2, .cells #[.string x1.Kind, .int .i64 x1.N, v2, v3] 102 (0, 0)), (b_1, .cells #[.string p1.Kind, pv1_0, .bool p1.Not] 114 (0, 0))]) Sz_102 rfl rfl rfl rfl rfl rfl ⟨rfl, rfl, h1.one, h2.one, trivial⟩ rfl rfl) rfl <| WL.nil <| WT.seq <| sr <| lq (q_move rfl) rfl <| lq (q_nilCheck rfl) rfl ?_
 refine lq (q_fieldAddr Fld_27_0 rfl) rfl <| lq (q_load1 T1_24 rfl (fun w1 hw => ((rg_cells pp0).of_eq 0 1 rfl rfl : rg _ _ _ [pv0_0]).rangeAt hw.fro)) rfl <| lq (q_lenR Sl_24 rfl rfl (ph0_0.rslG OTAlpha.gives)) rfl <| lq (q_move rfl) rfl <| WL.nil <| WT.block <| WT.loop <| WT.mono (l' := [(0, .pointer (some ⟨pb0, 0, none⟩)), (5, .pointer (some ⟨b_2, 0, none⟩)), (13, pv0_0), (14, .int .i64 (p0.Alphas.length : Int)), (15, .int .i64 0)]) (S' := St w0 Φ_1 [(b_2, .cells #[.string x1.Kind, .int .i64 x1.N, v2, v3] 102 (0, 0))] [ob v2, ob v3, [pb0], ob pv0_0, pD0_0]) ⟨rfl, rfl, rfl, rfl, rfl, trivial⟩ (fun w1 hw => (hw.sel (js := [0, 0, 0, 0, 0]) rfl).selO (js := [0]) rfl) ?_
 refine loop_ind (σ := Int) (fun s => [(0, .pointer (some ⟨pb0, 0, none⟩)), (5, .pointer (some ⟨b_2, 0, none⟩)), (13, pv0_0), (14, .int .i64 (p0.Alphas.length : Int)), (15, .int .i64 s)]) (fun s => St w0 Φ_1 [(b_2, .cells #[.string x1.Kind, .int .i64 x1.N, v2, v3] 102 (0, 0))] [ob v2, ob v3, [pb0], ob pv0_0, pD0_0]) (fun m s => m_i_Net_alphaAt_l1 N p0 x1 m s = some r) (fun s hm => none_ne (show (none : Option (Int × TNet)) = some r from hm)) (fun n1 ih1 s hm => ?_) N (0) h
 revert hm; revert s; intro s1 hm
 have h : m_i_Net_alphaAt_l1 N p0 x1 (n1 + 1) s1 = some r := hm
 show WT _ _ [(0, .pointer (some ⟨pb0, 0, none⟩)), (5, .pointer (some ⟨b_2, 0, none⟩)), (13, pv0_0), (14, .int .i64 (p0.Alphas.length : Int)), (15, .int .i64 s1)] (St w0 Φ_1 [(b_2, .cells #[.string x1.Kind, .int .i64 x1.N, v2, v3] 102 (0, 0))] [ob v2, ob v3, [pb0], ob pv0_0, pD0_0])
 unfold m_i_Net_alphaAt_l1 at h
 refine sr <| lq (q_lss rfl rfl) rfl <| WL.nil <| WT.seq ?_
 refine WT.cond rfl (fun c1 => ?_) (fun c1 => ?_)
 ·replace h := ite_t h c1
  refine WT.skip <| WT.seq <| WT.block <| sr <| lq (q_move rfl) rfl ?_
  obtain ⟨x2, hx2, h⟩ := bind_some h
  obtain ⟨cs1, F2, -, g1, hb1, hs1, r1⟩ := ph0_0.elS (idx_some hx2).2.2
  obtain ⟨v4, v5, rfl, rfl, h3, h4⟩ := r1
  have h5 := h3.rsl
  have h6 := h4.rsl
  refine lq (q_indexAddr Sl_24 rfl rfl ph0_0.rsl hx2) rfl <| lq (q_loadN Tn_102 rfl (fun w1 hw => (g1.of_eq 0 4 rfl rfl : rg _ _ _ [.string x2.Kind, .int .i64 x2.N, v4, v5]).rangeAt hw.fro) rfl) rfl ?_
  refine ln (n_alloc (C := #[.string eS, .int .i64 0, .slice none 0 0, .slice none 0 0]) Zr_102 rfl) rfl (fun b_3 => ?_)
  refine lq (q_assign rfl) rfl <| ls (s_store (i := 0) (vs := [.string x2.Kind, .int .i64 x2.N, v4, v5]) (C' := [.string x2.Kind, .int .i64 x2.N, v4, v5]) (O' := [(b_3, .cells #[.string x2.Kind, .int .i64 x2.N, v4, v5] 102 (0, 0)), (b_2, .cells #[.string x1.Kind, .int .i64 x1.N, v2, v3] 102 (0, 0))]) Sz_102 rfl rfl rfl rfl rfl rfl ⟨rfl, rfl, h5.one, h6.one, trivial⟩ rfl rfl) rfl <| WL.nil <| sr <| lq (q_loadN Tn_102 rfl (fun w1 hw => hw.rgO (i := 0) rfl 0 4 [.string x2.Kind, .int .i64 x2.N, v4, v5] rfl) rfl) rfl ?_
  refine lq (q_loadN Tn_102 rfl (fun w1 hw => hw.rgO (i := 1) rfl 0 4 [.string x1.Kind, .int .i64 x1.N, v2, v3] rfl) rfl) rfl ?_
  obtain ⟨x3, hx3, h⟩ := bind_some h
  refine lp (p_call Fun_52 rfl (fun w1 hw => m_i_SameAlpha_ok hw.fro N x2 x1 h5 h6 h1.rsl h2.rsl hx3)) rfl <| WL.nil ?_
  refine WT.cond rfl (fun c2 => ?_) (fun c2 => ?_)
  ·replace h := ite_t h c2
   refine sr <| lq (q_move rfl) rfl <| lq (q_assign rfl) rfl <| WL.nil ?_
   refine WT.ret Tryz.func108 (resOk.one rfl) (fun w1 hw => ?_)
   subst hb0
   cases h
   refine postG_of_St (js := [2, 2, 2]) hw rfl ⟨pv0_0, pD0_0, rfl, rfl, ph0_0, rfl, pp0⟩
  replace h := ite_f h c2
  refine WT.skip <| WT.inBlock <| WT.region <| lq (q_add rfl rfl) rfl <| lq (q_move rfl) rfl <| WL.nil ?_
  refine WT.inLoop (WT.mono (l' := [(0, .pointer (some ⟨pb0, 0, none⟩)), (5, .pointer (some ⟨b_2, 0, none⟩)), (13, pv0_0), (14, .int .i64 (p0.Alphas.length : Int)), (15, .int .i64 (IntKind.i64.wrap (s1 + 1)))]) (S' := St w0 Φ_1 [(b_2, .cells #[.string x1.Kind, .int .i64 x1.N, v2, v3] 102 (0, 0))] [ob v2, ob v3, [pb0], ob pv0_0, pD0_0]) ⟨rfl, rfl, rfl, rfl, rfl, trivial⟩ (fun w1 hw => (hw.sel (js := [0, 0, 0, 0, 0]) rfl).selO (js := [1]) rfl) ?_)
  exact ih1 (IntKind.i64.wrap (s1 + 1)) h
 replace h := ite_f h c1
 refine WT.exit rfl <| WT.seq <| WT.mix (Kn Φ_1 [pb0] [(b_2, .cells #[.string x1.Kind, .int .i64 x1.N, v2, v3] 102 (0, 0))]) (fun i => match i with | 10 => false | _ => true) mixed (fun _ h => h.drew) <| mq 0 rfl (by kernel_rfl) (fun w1 hw => Kn.of (fun _ _ _ h => h) (AllIn.mem ⟨gM 0 rfl, trivial⟩) hw) (q_move rfl) rfl <| mq 1 rfl (by kernel_rfl) (fun w1 hw => Kn.of (fun _ _ _ h => h) (AllIn.mem ⟨gM 0 rfl, trivial⟩) hw) (q_move rfl) rfl ?_
 refine mq 2 rfl (by kernel_rfl) (fun w1 hw => Kn.of (fun _ _ _ h => h) (AllIn.mem ⟨gM 0 rfl, trivial⟩) hw) (q_nilCheck rfl) rfl <| mq 3 rfl (by kernel_rfl) (fun w1 hw => Kn.of (fun _ _ _ h => h) (AllIn.mem ⟨gM 0 rfl, trivial⟩) hw) (q_fieldAddr Fld_27_0 rfl) rfl <| mq 4 rfl (by kernel_rfl) (fun w1 hw => Kn.of (fun _ _ _ h => h) (AllIn.mem ⟨gM 0 rfl, trivial⟩) hw) (q_load1 T1_24 rfl (fun w1 hw => hw.rg (by simp) ((rg_cells pp0).of_eq 0 1 rfl rfl : rg _ _ _ [pv0_0]))) rfl ?_
 refine mq 5 rfl (by kernel_rfl) (fun w1 hw => Kn.of (fun _ _ _ h => h) (AllIn.mem ⟨gM 0 rfl, trivial⟩) hw) (q_loadN Tn_102 rfl (fun w1 hw => hw.rgO (i := 0) rfl 0 4 [.string x1.Kind, .int .i64 x1.N, v2, v3] rfl) rfl) rfl ?_
 have rc1 : RC OTAlpha 4 Φ_1 ([(ob v2 ++ []) ++ ((ob v3 ++ []))] : List (List Nat)) [.string x1.Kind, .int .i64 x1.N, v2, v3] ([x1] : List TAlpha) := RC.cons (c := [.string x1.Kind, .int .i64 x1.N, v2, v3]) (cells := []) ⟨v2, v3, rfl, rfl, h1, h2⟩ rfl (RC.nil _ _ _)
 refine WM.one 6 (by kernel_rfl) (me rfl (fun _ v Φx D w1 hq hw => Kn.of (fun k hk o ho => hq.1 k o (by simp) ((fun _ _ _ h => h) k hk o ho)) (AllIn.mem ⟨gM 0 rfl, trivial⟩) hw) (e_lit (vs := [(0, .agg [.string x1.Kind, .int .i64 x1.N, v2, v3].toArray)]) (C := #[.string x1.Kind, .int .i64 x1.N, v2, v3]) OTAlpha.lasts Sl_24 Zr_102 rfl rfl rfl rfl (fill_made MC_102_1 (fill_cons (cells := [.string ⟨#[]⟩, .int .i64 0, .slice none 0 0, .slice none 0 0]) (c := [.string x1.Kind, .int .i64 x1.N, v2, v3]) (C' := [.string x1.Kind, .int .i64 x1.N, v2, v3]) rfl rfl rfl rfl rfl (fill_nil))) rfl rc1 rfl (RC.kn OTAlpha.knows rc1)) rfl (fun v6 Φ_2 D1 q2 => ?_))
 obtain ⟨fr2, h7⟩ := q2
 replace h7 : OSl OTAlpha 102 4 Φ_2 ((ob v2 ++ []) ++ ((ob v3 ++ []))) v6 ([x1] : List TAlpha) := by simpa [List.append_assoc] using h7
 replace ph0_1 := ph0_1.frame RTChain.lasts fr2 (Dj.empty _)
 replace ph0_0 := ph0_0.frame OTAlpha.lasts fr2 (Dj.empty _) (Dj.empty _)
 replace pp0 := fr2 _ _ (by simp) pp0
 refine WM.conv (S' := St w0 Φ_2 [(b_2, .cells #[.string x1.Kind, .int .i64 x1.N, v2, v3] 102 (0, 0))] [((ob v2 ++ []) ++ ((ob v3 ++ []))), ob v6, [pb0], ob pv0_0, pD0_0]) (fun w1 hw => hw.merge (js := [1, 1]) rfl (SP.eq (by simp [List.append_assoc, ob_nil]))) ?_
 obtain ⟨x4, hx4, h⟩ := bind_some h
 refine WM.one 7 (by kernel_rfl) (me rfl (fun _ v Φx D w1 hq hw => Kn.of (fun k hk o ho => hq.1.2 k o ((hq.1.1.r (i := 2) rfl) k hk) ((fun k hk o ho => fr2 k o (by simp) ((fun _ _ _ h => h) k hk o ho)) k hk o ho)) (AllIn.mem ⟨gM 0 rfl, trivial⟩) hw) (e_appO OTAlpha.lasts OTAlpha.one Sl_24 Ei_102 rfl rfl rfl rfl rfl (js := [3]) (Rr := [((ob v2 ++ []) ++ ((ob v3 ++ []))), ob v6, [pb0], pD0_0]) rfl ph0_0 h7 (fun ap => (ap.r (i := 3) rfl)) (fun ap => (ap.r (i := 0) rfl)) hx4) rfl (fun v7 Φ_3 D2 q3 => ?_))
 obtain ⟨⟨ap2, fr3⟩, h8⟩ := q3
 replace ph0_1 := ph0_1.frame RTChain.lasts fr3 (ap2.o pa0_1)
 replace pp0 := fr3 _ _ ((ap2.r (i := 2) rfl) _ (by simp)) pp0
 refine WM.conv (S' := St w0 Φ_3 [(b_2, .cells #[.string x1.Kind, .int .i64 x1.N, v2, v3] 102 (0, 0))] [(pD0_0 ++ ((ob v2 ++ []) ++ ((ob v3 ++ [])))), ob v7, ob v6, [pb0]]) (fun w1 hw => hw.merge (js := [4, 1]) rfl (SP.eq (by simp))) <| mqT 8 [9, 10] rfl (by kernel_rfl) (fun w1 hw => Kn.of (fun k hk o ho => fr3 k o ((ap2.r (i := 2) rfl) k hk) ((fun k hk o ho => fr2 k o (by simp) ((fun _ _ _ h => h) k hk o ho)) k hk o ho)) (AllIn.mem ⟨gM 0 rfl, trivial⟩) hw) (q_nilCheck rfl) rfl ?_
 refine mq 9 rfl (by kernel_rfl) (fun w1 hw => Kn.of (fun k hk o ho => fr3 k o ((ap2.r (i := 2) rfl) k hk) ((fun k hk o ho => fr2 k o (by simp) ((fun _ _ _ h => h) k hk o ho)) k hk o ho)) (AllIn.mem ⟨gM 0 rfl, trivial⟩) hw) (q_fieldAddr Fld_27_0 rfl) rfl ?_
 refine WM.thw (js := [3]) (R := [(pD0_0 ++ ((ob v2 ++ []) ++ ((ob v3 ++ [])))), ob v7, ob v6]) rfl pp0 (fun Φ_4 ap3 fr4 => ?_)
 replace ph0_1 := ph0_1.frame RTChain.lasts fr4 (ap3.o pa0_1)
 replace h8 := h8.frame OTAlpha.lasts fr4 (ap3.r (i := 1) rfl) (ap3.r (i := 0) rfl)
 refine WM.one 10 (by kernel_rfl) (ms rfl (fun hc => by cases hc) (s_store (i := 0) (vs := [v7]) (C' := [v7, pv0_1]) (O' := [(pb0, .cells #[v7, pv0_1] 27 (0, 0)), (b_2, .cells #[.string x1.Kind, .int .i64 x1.N, v2, v3] 102 (0, 0))]) Sz_24 rfl rfl rfl (one_cells h8.one) rfl rfl ⟨h8.one, trivial⟩ rfl rfl) rfl ?_)
 refine WM.nil (by kernel_rfl) <| sr <| lq (q_move rfl) rfl <| lq (q_nilCheck rfl) rfl <| lq (q_fieldAddr Fld_27_0 rfl) rfl <| lq (q_load1 T1_24 rfl (fun w1 hw => hw.rgO (i := 0) rfl 0 1 [v7] rfl)) rfl <| lq (q_lenR Sl_24 rfl rfl (h8.rslG OTAlpha.gives)) rfl <| lq (q_sub rfl rfl) rfl <| lq (q_assign rfl) rfl <| WL.nil ?_
 refine WT.frz (js := [0]) (R := [(b_2, .cells #[.string x1.Kind, .int .i64 x1.N, v2, v3] 102 (0, 0))]) rfl (fun Φ_5 fr5 k1 => ?_)
 replace ph0_1 := ph0_1.frame RTChain.lasts fr5 (Dj.empty _)
 replace h8 := h8.frame OTAlpha.lasts fr5 (Dj.empty _) (Dj.empty _)
 refine WT.ret Tryz.func108 (resOk.one rfl) (fun w1 hw => ?_)
 subst hb0
 cases h
 refine postG_of_St (js := [0, 1, 0]) hw rfl ⟨v7, (pD0_0 ++ ((ob v2 ++ []) ++ ((ob v3 ++ [])))), rfl, rfl, h8, rfl, k1⟩
end Go.Proofs.YtjangilipfjcmaaGreat
