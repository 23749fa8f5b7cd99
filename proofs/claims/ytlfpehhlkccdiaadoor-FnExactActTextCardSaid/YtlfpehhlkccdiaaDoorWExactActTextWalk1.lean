/- Printed by a program of ours: each Go function computes its Lean function. -/
import Derived.Test.YtlfpehhlkccdiaaDoorProg
import Derived.Test.YtlfpehhlkccdiaaDoorWExactActTextMod
import Derived.Test.YtlfpehhlkccdiaaDoorWExactActTextLib
namespace Go.Proofs.YtlfpehhlkccdiaaDoor
open Eng
open Go.RowKit (Below)
set_option linter.unusedVariables false
set_option linter.unusedSimpArgs false

set_option maxRecDepth 100000
set_option maxHeartbeats 1000000
theorem mixed : Tryd.prog.follows .mixedOrders = true := by kernel_rfl
theorem Fun_72 : Fun Tryd.prog 72 = true := by kernel_rfl
theorem Fun_96 : Fun Tryd.prog 96 = true := by kernel_rfl
theorem Str_9 : Str Tryd.prog 9 = true := by kernel_rfl
theorem Fun_84 : Fun Tryd.prog 84 = true := by kernel_rfl
theorem Fld_30_0 : Fld Tryd.prog 30 0 0 = true := by kernel_rfl
theorem T1_3 : T1 Tryd.prog 3 = true := by kernel_rfl
theorem Fld_30_1 : Fld Tryd.prog 30 1 1 = true := by kernel_rfl
theorem Fun_32 : Fun Tryd.prog 32 = true := by kernel_rfl
theorem Fld_30_2 : Fld Tryd.prog 30 2 2 = true := by kernel_rfl
theorem T1_9 : T1 Tryd.prog 9 = true := by kernel_rfl
theorem Fun_73 : Fun Tryd.prog 73 = true := by kernel_rfl
theorem Fun_88 : Fun Tryd.prog 88 = true := by kernel_rfl
theorem Fld_32_0 : Fld Tryd.prog 32 0 0 = true := by kernel_rfl
theorem Fld_32_1 : Fld Tryd.prog 32 1 1 = true := by kernel_rfl
theorem Fun_77 : Fun Tryd.prog 77 = true := by kernel_rfl
theorem Fld_32_2 : Fld Tryd.prog 32 2 2 = true := by kernel_rfl
theorem Tn_30 : Tn Tryd.prog 30 3 = true := by kernel_rfl
theorem Pl_30 : Pl Tryd.prog 30 #[(0, 1), (1, 1), (2, 1)] = true := by kernel_rfl
theorem Zr_30 : (Tryd.prog.info? 30).map (·.zero) = some (some (.agg #[.int .i64 0, .int .i64 0, .string ⟨#[]⟩])) := by kernel_rfl
theorem EqT_30 : EqT Tryd.prog 30 [.i .i64, .i .i64, .s] = true := by kernel_rfl
theorem Fun_61 : Fun Tryd.prog 61 = true := by kernel_rfl
theorem Tn_32 : Tn Tryd.prog 32 5 = true := by kernel_rfl
theorem Fun_60 : Fun Tryd.prog 60 = true := by kernel_rfl
theorem Fld_34_0 : Fld Tryd.prog 34 0 0 = true := by kernel_rfl
theorem Fld_34_1 : Fld Tryd.prog 34 1 1 = true := by kernel_rfl
theorem Fun_46 : Fun Tryd.prog 46 = true := by kernel_rfl
theorem Fld_34_2 : Fld Tryd.prog 34 2 6 = true := by kernel_rfl
theorem Pl_32 : Pl Tryd.prog 32 #[(0, 1), (1, 1), (2, 3)] = true := by kernel_rfl
theorem Zr_32 : (Tryd.prog.info? 32).map (·.zero) = some (some (.agg #[.int .i64 0, .string ⟨#[]⟩, .int .i64 0, .int .i64 0, .string ⟨#[]⟩])) := by kernel_rfl
theorem EqT_32 : EqT Tryd.prog 32 [.i .i64, .s, .i .i64, .i .i64, .s] = true := by kernel_rfl
theorem Fld_41_1 : Fld Tryd.prog 41 1 1 = true := by kernel_rfl
theorem Fun_56 : Fun Tryd.prog 56 = true := by kernel_rfl
theorem Fld_41_2 : Fld Tryd.prog 41 2 2 = true := by kernel_rfl
theorem T1_39 : T1 Tryd.prog 39 = true := by kernel_rfl
theorem Sl_39 : Sl Tryd.prog 39 34 11 = true := by kernel_rfl
theorem Tn_34 : Tn Tryd.prog 34 11 = true := by kernel_rfl
theorem Zr_34 : (Tryd.prog.info? 34).map (·.zero) = some (some (.agg #[.string ⟨#[]⟩, .int .i64 0, .string ⟨#[]⟩, .int .i64 0, .int .i64 0, .string ⟨#[]⟩, .int .i64 0, .string ⟨#[]⟩, .int .i64 0, .int .i64 0, .string ⟨#[]⟩])) := by kernel_rfl
theorem Sz_34 : Sz Tryd.prog 34 11 = true := by kernel_rfl
theorem Fun_24 : Fun Tryd.prog 24 = true := by kernel_rfl
theorem Fld_41_0 : Fld Tryd.prog 41 0 0 = true := by kernel_rfl
theorem Tn_41 : Tn Tryd.prog 41 5 = true := by kernel_rfl
theorem Fun_31 : Fun Tryd.prog 31 = true := by kernel_rfl
theorem Fld_41_3 : Fld Tryd.prog 41 3 3 = true := by kernel_rfl
theorem Fld_41_4 : Fld Tryd.prog 41 4 4 = true := by kernel_rfl
theorem Fun_33 : Fun Tryd.prog 33 = true := by kernel_rfl
theorem Fun_30 : Fun Tryd.prog 30 = true := by kernel_rfl
theorem Fun_47 : Fun Tryd.prog 47 = true := by kernel_rfl
theorem Fun_25 : Fun Tryd.prog 25 = true := by kernel_rfl
theorem Fun_9 : Fun Tryd.prog 9 = true := by kernel_rfl
theorem MC_9_1 : madeCells (Value.string ⟨#[]⟩ : Value).cells (1 * 1) = #[.string ⟨#[]⟩] := by kernel_rfl
theorem Sl_76 : Sl Tryd.prog 76 9 1 = true := by kernel_rfl
theorem Zr_9 : (Tryd.prog.info? 9).map (·.zero) = some (some (.string ⟨#[]⟩)) := by kernel_rfl
theorem Ei_9 : (Tryd.prog.info? 9).map (fun i => (i.zero, i.size, i.bytes)) = some (some (.string ⟨#[]⟩), 1, 16) := by kernel_rfl
theorem Fun_54 : Fun Tryd.prog 54 = true := by kernel_rfl
theorem Fun_14 : Fun Tryd.prog 14 = true := by kernel_rfl
theorem Fun_29 : Fun Tryd.prog 29 = true := by kernel_rfl
theorem Ik_5 : Ik Tryd.prog 5 .u8 = true := by kernel_rfl
theorem Ik_3 : Ik Tryd.prog 3 .i64 = true := by kernel_rfl
theorem Fun_36 : Fun Tryd.prog 36 = true := by kernel_rfl
theorem Fun_57 : Fun Tryd.prog 57 = true := by kernel_rfl
theorem Fun_85 : Fun Tryd.prog 85 = true := by kernel_rfl
theorem Fun_86 : Fun Tryd.prog 86 = true := by kernel_rfl
theorem Fun_74 : Fun Tryd.prog 74 = true := by kernel_rfl
theorem Fun_75 : Fun Tryd.prog 75 = true := by kernel_rfl
theorem Fun_58 : Fun Tryd.prog 58 = true := by kernel_rfl
theorem Fun_39 : Fun Tryd.prog 39 = true := by kernel_rfl
theorem Fun_17 : Fun Tryd.prog 17 = true := by kernel_rfl
theorem Fun_34 : Fun Tryd.prog 34 = true := by kernel_rfl
theorem Fun_35 : Fun Tryd.prog 35 = true := by kernel_rfl
theorem Fun_38 : Fun Tryd.prog 38 = true := by kernel_rfl
theorem MC_5_1 : madeCells (Value.int .u8 0 : Value).cells (1 * 1) = #[.int .u8 0] := by kernel_rfl
theorem Sl_37 : Sl Tryd.prog 37 5 1 = true := by kernel_rfl
theorem Zr_5 : (Tryd.prog.info? 5).map (·.zero) = some (some (.int .u8 0)) := by kernel_rfl
theorem Fun_44 : Fun Tryd.prog 44 = true := by kernel_rfl
theorem Fun_22 : Fun Tryd.prog 22 = true := by kernel_rfl
theorem Fun_7 : Fun Tryd.prog 7 = true := by kernel_rfl
theorem Fun_15 : Fun Tryd.prog 15 = true := by kernel_rfl
theorem Fun_37 : Fun Tryd.prog 37 = true := by kernel_rfl
theorem Fld_23_2 : Fld Tryd.prog 23 2 2 = true := by kernel_rfl
theorem Fld_25_1 : Fld Tryd.prog 25 1 1 = true := by kernel_rfl
theorem Fld_25_2 : Fld Tryd.prog 25 2 2 = true := by kernel_rfl
theorem Tn_23 : Tn Tryd.prog 23 3 = true := by kernel_rfl
theorem Fun_43 : Fun Tryd.prog 43 = true := by kernel_rfl
theorem Fld_27_0 : Fld Tryd.prog 27 0 0 = true := by kernel_rfl
theorem Fld_27_1 : Fld Tryd.prog 27 1 1 = true := by kernel_rfl
theorem Tn_25 : Tn Tryd.prog 25 5 = true := by kernel_rfl
theorem Fun_21 : Fun Tryd.prog 21 = true := by kernel_rfl
theorem Fld_27_2 : Fld Tryd.prog 27 2 6 = true := by kernel_rfl
theorem Sl_47 : Sl Tryd.prog 47 27 11 = true := by kernel_rfl
theorem Tn_27 : Tn Tryd.prog 27 11 = true := by kernel_rfl
theorem Fun_6 : Fun Tryd.prog 6 = true := by kernel_rfl
theorem Fld_49_1 : Fld Tryd.prog 49 1 1 = true := by kernel_rfl
theorem Fld_49_2 : Fld Tryd.prog 49 2 2 = true := by kernel_rfl
theorem T1_47 : T1 Tryd.prog 47 = true := by kernel_rfl
theorem Fun_40 : Fun Tryd.prog 40 = true := by kernel_rfl
theorem Fld_49_4 : Fld Tryd.prog 49 4 4 = true := by kernel_rfl
theorem Fld_23_0 : Fld Tryd.prog 23 0 0 = true := by kernel_rfl
theorem Sz_3 : Sz Tryd.prog 3 1 = true := by kernel_rfl
theorem Fld_23_1 : Fld Tryd.prog 23 1 1 = true := by kernel_rfl
theorem Sz_9 : Sz Tryd.prog 9 1 = true := by kernel_rfl
theorem Sz_30 : Sz Tryd.prog 30 3 = true := by kernel_rfl
theorem Fld_25_0 : Fld Tryd.prog 25 0 0 = true := by kernel_rfl
theorem Fun_45 : Fun Tryd.prog 45 = true := by kernel_rfl
theorem Sz_32 : Sz Tryd.prog 32 5 = true := by kernel_rfl
theorem Fun_23 : Fun Tryd.prog 23 = true := by kernel_rfl
theorem By_34 : By Tryd.prog 34 128 = true := by kernel_rfl
theorem Fun_8 : Fun Tryd.prog 8 = true := by kernel_rfl
theorem Zr_41 : (Tryd.prog.info? 41).map (·.zero) = some (some (.agg #[.int .i64 0, .string ⟨#[]⟩, .slice none 0 0, .int .i64 0, .string ⟨#[]⟩])) := by kernel_rfl
theorem Fld_49_0 : Fld Tryd.prog 49 0 0 = true := by kernel_rfl
theorem Fun_41 : Fun Tryd.prog 41 = true := by kernel_rfl
theorem Sz_39 : Sz Tryd.prog 39 1 = true := by kernel_rfl
theorem Fld_49_3 : Fld Tryd.prog 49 3 3 = true := by kernel_rfl
theorem Sz_41 : Sz Tryd.prog 41 5 = true := by kernel_rfl
theorem Fun_87 : Fun Tryd.prog 87 = true := by kernel_rfl
theorem Fun_76 : Fun Tryd.prog 76 = true := by kernel_rfl
theorem Fun_59 : Fun Tryd.prog 59 = true := by kernel_rfl
theorem Fun_42 : Fun Tryd.prog 42 = true := by kernel_rfl
theorem Tn_49 : Tn Tryd.prog 49 5 = true := by kernel_rfl
theorem Fun_18 : Fun Tryd.prog 18 = true := by kernel_rfl
theorem Fun_19 : Fun Tryd.prog 19 = true := by kernel_rfl
theorem Fun_16 : Fun Tryd.prog 16 = true := by kernel_rfl
theorem Fun_13 : Fun Tryd.prog 13 = true := by kernel_rfl
theorem Fun_20 : Fun Tryd.prog 20 = true := by kernel_rfl
theorem m_i_inRange_ok {Φ : Hp} {w : World} (hΦ : In Φ w) (N : Nat) (p0 : Int) (p1 : Int) (p2 : Int)   {r : Bool} (h : m_i_inRange N p0 p1 p2 = some r) :
  Calls Tryd.prog 32 [.int .i64 p0, .int .i64 p1, .int .i64 p2].toArray w (Post (.bool r) w) := by
 refine enter Tryd.func32 rfl Tryd.ntmps32 rfl (St.start0 hΦ) ?_
 unfold m_i_inRange at h
 refine sr <| la rfl <| en <| sr <| la rfl <| la rfl <| la rfl <| la rfl ?_
 obtain ⟨b1, hb_1, h⟩ := bs h
 refine WL.cutN 4 [(14, .bool b1), (6, .bool false)] ?_ (fun K => ?_)
 rotate_left
 ·refine spl 10 rfl hb_1 (fun c1 hb_1 => ?_) (fun c1 hb_1 => ?_)
  ·refine ly rfl rfl <| la rfl <| ly rfl rfl <| la rfl <| ly rfl rfl <| la rfl <| la rfl ?_
   cases hb_1
   exact kk K ⟨rfl, rfl, trivial⟩
  ·refine la rfl <| la rfl <| la rfl <| la rfl ?_
   cases hb_1
   exact kk K ⟨rfl, rfl, trivial⟩
 refine la rfl <| en ?_
 refine WT.ret Tryd.func32 (resOk.one rfl) (fun w1 hw => ?_)
 cases h
 exact post_of_St hw
theorem m_i_isSmall_ok {Φ : Hp} {w : World} (hΦ : In Φ w) (N : Nat) (p0 : Int)   {r : Bool} (h : m_i_isSmall N p0 = some r) :
  Calls Tryd.prog 72 [.int .u8 p0].toArray w (Post (.bool r) w) := by
 refine enter Tryd.func72 rfl Tryd.ntmps72 rfl (St.start0 hΦ) ?_
 unfold m_i_isSmall at h
 refine sr <| la rfl <| en <| sr <| la rfl <| la rfl <| la rfl ?_
 obtain ⟨b1, hb_1, h⟩ := bs h
 refine WL.cutN 3 [(8, .bool b1), (2, .bool false)] ?_ (fun K => ?_)
 rotate_left
 ·refine spl 5 rfl hb_1 (fun c1 hb_1 => ?_) (fun c1 hb_1 => ?_)
  ·refine ly rfl rfl <| la rfl <| ly rfl rfl <| la rfl <| la rfl ?_
   cases hb_1
   exact kk K ⟨rfl, rfl, trivial⟩
  ·refine la rfl <| la rfl <| la rfl ?_
   cases hb_1
   exact kk K ⟨rfl, rfl, trivial⟩
 refine la rfl <| en ?_
 refine WT.ret Tryd.func72 (resOk.one rfl) (fun w1 hw => ?_)
 cases h
 exact post_of_St hw
theorem m_i_isDigit_ok {Φ : Hp} {w : World} (hΦ : In Φ w) (N : Nat) (p0 : Int)   {r : Bool} (h : m_i_isDigit N p0 = some r) :
  Calls Tryd.prog 96 [.int .u8 p0].toArray w (Post (.bool r) w) := by
 refine enter Tryd.func96 rfl Tryd.ntmps96 rfl (St.start0 hΦ) ?_
 unfold m_i_isDigit at h
 refine sr <| la rfl <| en <| sr <| la rfl <| la rfl <| la rfl ?_
 obtain ⟨b1, hb_1, h⟩ := bs h
 refine WL.cutN 3 [(8, .bool b1), (2, .bool false)] ?_ (fun K => ?_)
 rotate_left
 ·refine spl 5 rfl hb_1 (fun c1 hb_1 => ?_) (fun c1 hb_1 => ?_)
  ·refine ly rfl rfl <| la rfl <| ly rfl rfl <| la rfl <| la rfl ?_
   cases hb_1
   exact kk K ⟨rfl, rfl, trivial⟩
  ·refine la rfl <| la rfl <| la rfl ?_
   cases hb_1
   exact kk K ⟨rfl, rfl, trivial⟩
 refine la rfl <| en ?_
 refine WT.ret Tryd.func96 (resOk.one rfl) (fun w1 hw => ?_)
 cases h
 exact post_of_St hw
theorem m_i_isWordByte_ok {Φ : Hp} {w : World} (hΦ : In Φ w) (N : Nat) (p0 : Int)   {r : Bool} (h : m_i_isWordByte N p0 = some r) :
  Calls Tryd.prog 84 [.int .u8 p0].toArray w (Post (.bool r) w) := by
 refine enter Tryd.func84 rfl Tryd.ntmps84 rfl (St.start0 hΦ) ?_
 unfold m_i_isWordByte at h
 refine sr <| la rfl <| en <| sr <| la rfl ?_
 obtain ⟨x1, hx1, h⟩ := bs h
 refine lp (p_call Fun_72 rfl (fun w1 hw => m_i_isSmall_ok hw.fro N p0 hx1)) rfl <| la rfl ?_
 obtain ⟨b1, hb_1, h⟩ := bs h
 refine WL.cutN 3 [(8, .bool b1), (0, .int .u8 p0), (2, .bool false)] ?_ (fun K => ?_)
 rotate_left
 ·refine spl 5 rfl hb_1 (fun c1 hb_1 => ?_) (fun c1 hb_1 => ?_)
  ·refine la rfl <| la rfl <| la rfl ?_
   cases hb_1
   exact kk K ⟨rfl, rfl, rfl, trivial⟩
  ·refine ly rfl rfl <| la rfl <| ly rfl rfl ?_
   obtain ⟨x2, hx2, hb_1⟩ := bs hb_1
   refine lp (p_call Fun_96 rfl (fun w1 hw => m_i_isDigit_ok hw.fro N p0 hx2)) rfl <| la rfl ?_
   cases hb_1
   exact kk K ⟨rfl, rfl, rfl, trivial⟩
 refine la rfl ?_
 obtain ⟨b2, hb_2, h⟩ := bs h
 refine WL.cutN 3 [(12, .bool b2), (2, .bool false)] ?_ (fun K => ?_)
 rotate_left
 ·refine spl 9 rfl hb_2 (fun c2 hb_2 => ?_) (fun c2 hb_2 => ?_)
  ·refine la rfl <| la rfl <| la rfl ?_
   cases hb_2
   exact kk K ⟨rfl, rfl, trivial⟩
  ·refine ly rfl rfl <| la rfl <| ly rfl rfl <| la rfl <| la rfl ?_
   cases hb_2
   exact kk K ⟨rfl, rfl, trivial⟩
 refine la rfl <| en ?_
 refine WT.ret Tryd.func84 (resOk.one rfl) (fun w1 hw => ?_)
 cases h
 exact post_of_St hw
theorem m_i_isWord_ok {Φ : Hp} {w : World} (hΦ : In Φ w) (N : Nat) (p0 : ByteArray) (p1 : Int)   {r : Bool} (h : m_i_isWord N p0 p1 = some r) :
  Calls Tryd.prog 73 [.string p0, .int .i64 p1].toArray w (Post (.bool r) w) := by
 refine enter Tryd.func73 rfl Tryd.ntmps73 rfl (St.start0 hΦ) ?_
 generalize hb0 : (⟨w, [], Φ⟩ : Base) = w0
 unfold m_i_isWord at h
 refine sr <| la rfl <| en <| sq <| sr <| la rfl <| lq (q_lenS Str_9 rfl rfl) rfl <| la rfl <| la rfl <| en ?_
 refine cdh rfl h (fun c1 h => ?_) (fun c1 h => ?_)
 ·refine sr <| la rfl <| en ?_
  refine WT.ret Tryd.func73 (resOk.one rfl) (fun w1 hw => ?_)
  subst hb0
  cases h
  exact post_of_St hw
 refine WT.skip <| sq <| sr <| la rfl <| en <| blk ?_
 refine loop_in (σ := Int) (fun s => [(0, .string p0), (5, .int .i64 s)]) (fun s => St w0 Φ [] []) (fun m s => m_i_isWord_l1 N p0 m s = some r) (0) N h ⟨rfl, rfl, trivial⟩ (fun w1 hw => (hw.sel (js := []) rfl).selO (js := []) rfl) (fun s hm => none_ne hm) (fun n1 ih1 s hm => ?_)
 revert hm; revert s; intro s1 hm
 have h : m_i_isWord_l1 N p0 (n1 + 1) s1 = some r := hm
 show WT _ _ [(0, .string p0), (5, .int .i64 s1)] (St w0 Φ [] [])
 unfold m_i_isWord_l1 at h
 refine sq <| sr <| la rfl <| la rfl <| lq (q_lenS Str_9 rfl rfl) rfl <| la rfl <| en ?_
 refine cdh rfl h (fun c2 h => ?_) (fun c2 h => ?_)
 ·refine WT.skip <| sq <| blk <| sr <| la rfl <| la rfl ?_
  obtain ⟨y1, hy1, h⟩ := bs h
  refine lq (q_indexS Str_9 rfl rfl hy1) rfl ?_
  obtain ⟨x1, hx1, h⟩ := bs h
  refine lp (p_call Fun_84 rfl (fun w1 hw => m_i_isWordByte_ok hw.fro N (y1.toNat : Int) hx1)) rfl <| la rfl <| en ?_
  refine cdh rfl h (fun c3 h => ?_) (fun c3 h => ?_)
  ·refine sr <| la rfl <| en ?_
   refine WT.ret Tryd.func73 (resOk.one rfl) (fun w1 hw => ?_)
   subst hb0
   cases h
   exact post_of_St hw
  refine WT.skip <| ib <| rgn <| la rfl <| la rfl <| la rfl <| en ?_
  exact lback (ih1 (IntKind.i64.wrap (s1 + 1)) h) ⟨rfl, rfl, trivial⟩ (fun w1 hw => (hw.sel (js := []) rfl).selO (js := []) rfl)
 refine xt rfl <| sr <| la rfl <| en ?_
 refine WT.ret Tryd.func73 (resOk.one rfl) (fun w1 hw => ?_)
 subst hb0
 cases h
 exact post_of_St hw
theorem m_i_ValOk_ok {Φ : Hp} {w : World} (hΦ : In Φ w) (N : Nat) (p0 : TVal)   {r : Bool} (h : m_i_ValOk N p0 = some r) :
  Calls Tryd.prog 61 [.agg [.int .i64 p0.K, .int .i64 p0.N, .string p0.S].toArray].toArray w (Post (.bool r) w) := by
 refine enter Tryd.func61 rfl Tryd.ntmps61 rfl (St.start0 hΦ) ?_
 unfold m_i_ValOk at h
 refine sr ?_
 refine ln (nb rfl) rfl (fun b_1 => ?_)
 refine la rfl <| en <| sq <| sr <| lf Fld_30_0 rfl rfl rfl <| lo T1_3 0 rfl <| en <| blk <| sr <| la rfl <| la rfl <| en ?_
 refine cdh rfl h (fun c1 h => ?_) (fun c1 h => ?_)
 ·refine sr <| lf Fld_30_1 rfl rfl rfl <| lo T1_3 0 rfl ?_
  obtain ⟨x1, hx1, h⟩ := bs h
  refine lp (p_call Fun_32 rfl (fun w1 hw => m_i_inRange_ok hw.fro N p0.N (-1000000000) 1000000000 hx1)) rfl <| la rfl ?_
  obtain ⟨b1, hb_1, h⟩ := bs h
  refine WL.cutN 4 [(14, .bool b1), (2, .bool false)] ?_ (fun K => ?_)
  rotate_left
  ·refine spl 10 rfl hb_1 (fun c2 hb_1 => ?_) (fun c2 hb_1 => ?_)
   ·refine ly rfl rfl <| lf Fld_30_2 rfl rfl rfl <| ly rfl rfl <| lo T1_9 0 rfl <| ly rfl rfl <| la rfl <| la rfl ?_
    cases hb_1
    exact kk K ⟨rfl, rfl, trivial⟩
   ·refine la rfl <| la rfl <| la rfl <| la rfl ?_
    cases hb_1
    exact kk K ⟨rfl, rfl, trivial⟩
  refine la rfl <| en ?_
  refine WT.ret Tryd.func61 (resOk.one rfl) (fun w1 hw => ?_)
  cases h
  exact post_of_St hw
 refine sr <| la rfl <| la rfl <| en ?_
 refine cdh rfl h (fun c3 h => ?_) (fun c3 h => ?_)
 ·refine sr <| lf Fld_30_1 rfl rfl rfl <| lo T1_3 0 rfl <| la rfl <| la rfl ?_
  obtain ⟨b2, hb_2, h⟩ := bs h
  refine WL.cutN 4 [(24, .bool b2), (2, .bool false)] ?_ (fun K => ?_)
  rotate_left
  ·refine spl 20 rfl hb_2 (fun c4 hb_2 => ?_) (fun c4 hb_2 => ?_)
   ·refine ly rfl rfl <| lf Fld_30_2 rfl rfl rfl <| ly rfl rfl <| lo T1_9 0 rfl <| ly rfl rfl ?_
    obtain ⟨x2, hx2, hb_2⟩ := bs hb_2
    refine lp (p_call Fun_73 rfl (fun w1 hw => m_i_isWord_ok hw.fro N p0.S 20 hx2)) rfl <| la rfl ?_
    cases hb_2
    exact kk K ⟨rfl, rfl, trivial⟩
   ·refine la rfl <| la rfl <| la rfl <| la rfl ?_
    cases hb_2
    exact kk K ⟨rfl, rfl, trivial⟩
  refine la rfl <| en ?_
  refine WT.ret Tryd.func61 (resOk.one rfl) (fun w1 hw => ?_)
  cases h
  exact post_of_St hw
 refine WT.skip <| ib <| sr <| la rfl <| en ?_
 refine WT.ret Tryd.func61 (resOk.one rfl) (fun w1 hw => ?_)
 cases h
 exact post_of_St hw
theorem m_i_isLarge_ok {Φ : Hp} {w : World} (hΦ : In Φ w) (N : Nat) (p0 : Int)   {r : Bool} (h : m_i_isLarge N p0 = some r) :
  Calls Tryd.prog 88 [.int .u8 p0].toArray w (Post (.bool r) w) := by
 refine enter Tryd.func88 rfl Tryd.ntmps88 rfl (St.start0 hΦ) ?_
 unfold m_i_isLarge at h
 refine sr <| la rfl <| en <| sr <| la rfl <| la rfl <| la rfl ?_
 obtain ⟨b1, hb_1, h⟩ := bs h
 refine WL.cutN 3 [(8, .bool b1), (2, .bool false)] ?_ (fun K => ?_)
 rotate_left
 ·refine spl 5 rfl hb_1 (fun c1 hb_1 => ?_) (fun c1 hb_1 => ?_)
  ·refine ly rfl rfl <| la rfl <| ly rfl rfl <| la rfl <| la rfl ?_
   cases hb_1
   exact kk K ⟨rfl, rfl, trivial⟩
  ·refine la rfl <| la rfl <| la rfl ?_
   cases hb_1
   exact kk K ⟨rfl, rfl, trivial⟩
 refine la rfl <| en ?_
 refine WT.ret Tryd.func88 (resOk.one rfl) (fun w1 hw => ?_)
 cases h
 exact post_of_St hw
theorem m_i_isVar_ok {Φ : Hp} {w : World} (hΦ : In Φ w) (N : Nat) (p0 : ByteArray)   {r : Bool} (h : m_i_isVar N p0 = some r) :
  Calls Tryd.prog 77 [.string p0].toArray w (Post (.bool r) w) := by
 refine enter Tryd.func77 rfl Tryd.ntmps77 rfl (St.start0 hΦ) ?_
 generalize hb0 : (⟨w, [], Φ⟩ : Base) = w0
 unfold m_i_isVar at h
 refine sr <| la rfl <| en <| sq <| sr <| la rfl <| lq (q_lenS Str_9 rfl rfl) rfl <| la rfl <| la rfl ?_
 obtain ⟨b1, hb_1, h⟩ := bs h
 refine WL.cutN 4 [(11, .bool b1), (0, .string p0)] ?_ (fun K => ?_)
 rotate_left
 ·refine spl 7 rfl hb_1 (fun c1 hb_1 => ?_) (fun c1 hb_1 => ?_)
  ·refine la rfl <| la rfl <| la rfl <| la rfl ?_
   cases hb_1
   exact kk K ⟨rfl, rfl, trivial⟩
  ·refine ly rfl rfl <| la rfl <| ly rfl rfl <| lq (q_lenS Str_9 rfl rfl) rfl <| ly rfl rfl <| la rfl <| la rfl ?_
   cases hb_1
   exact kk K ⟨rfl, rfl, trivial⟩
 refine la rfl ?_
 obtain ⟨b2, hb_2, h⟩ := bs h
 refine WL.cutN 5 [(17, .bool b2), (0, .string p0)] ?_ (fun K => ?_)
 rotate_left
 ·refine spl 12 rfl hb_2 (fun c2 hb_2 => ?_) (fun c2 hb_2 => ?_)
  ·refine la rfl <| la rfl <| la rfl <| la rfl <| la rfl ?_
   cases hb_2
   exact kk K ⟨rfl, rfl, trivial⟩
  ·refine ly rfl rfl <| la rfl <| ly rfl rfl ?_
   obtain ⟨y1, hy1, hb_2⟩ := bs hb_2
   refine lq (q_indexS Str_9 rfl rfl hy1) rfl <| ly rfl rfl ?_
   obtain ⟨x1, hx1, hb_2⟩ := bs hb_2
   refine lp (p_call Fun_88 rfl (fun w1 hw => m_i_isLarge_ok hw.fro N (y1.toNat : Int) hx1)) rfl <| ly rfl rfl <| la rfl <| la rfl ?_
   cases hb_2
   exact kk K ⟨rfl, rfl, trivial⟩
 refine en ?_
 refine cdh rfl h (fun c3 h => ?_) (fun c3 h => ?_)
 ·refine sr <| la rfl <| en ?_
  refine WT.ret Tryd.func77 (resOk.one rfl) (fun w1 hw => ?_)
  subst hb0
  cases h
  exact post_of_St hw
 refine WT.skip <| sq <| sr <| la rfl <| en <| blk ?_
 refine loop_in (σ := Int) (fun s => [(0, .string p0), (3, .int .i64 s)]) (fun s => St w0 Φ [] []) (fun m s => m_i_isVar_l1 N p0 m s = some r) (0) N h ⟨rfl, rfl, trivial⟩ (fun w1 hw => (hw.sel (js := []) rfl).selO (js := []) rfl) (fun s hm => none_ne hm) (fun n1 ih1 s hm => ?_)
 revert hm; revert s; intro s1 hm
 have h : m_i_isVar_l1 N p0 (n1 + 1) s1 = some r := hm
 show WT _ _ [(0, .string p0), (3, .int .i64 s1)] (St w0 Φ [] [])
 unfold m_i_isVar_l1 at h
 refine sq <| sr <| la rfl <| la rfl <| lq (q_lenS Str_9 rfl rfl) rfl <| la rfl <| en ?_
 refine cdh rfl h (fun c4 h => ?_) (fun c4 h => ?_)
 ·refine WT.skip <| sq <| blk <| sr <| la rfl <| la rfl ?_
  obtain ⟨y2, hy2, h⟩ := bs h
  refine lq (q_indexS Str_9 rfl rfl hy2) rfl ?_
  obtain ⟨x2, hx2, h⟩ := bs h
  refine lp (p_call Fun_84 rfl (fun w1 hw => m_i_isWordByte_ok hw.fro N (y2.toNat : Int) hx2)) rfl <| la rfl <| la rfl ?_
  obtain ⟨b3, hb_3, h⟩ := bs h
  refine WL.cutN 6 [(35, .bool b3), (0, .string p0), (3, .int .i64 s1)] ?_ (fun K => ?_)
  rotate_left
  ·refine spl 29 rfl hb_3 (fun c5 hb_3 => ?_) (fun c5 hb_3 => ?_)
   ·refine ly rfl rfl <| la rfl <| ly rfl rfl <| la rfl <| ly rfl rfl ?_
    obtain ⟨y3, hy3, hb_3⟩ := bs hb_3
    refine lq (q_indexS Str_9 rfl rfl hy3) rfl <| ly rfl rfl ?_
    obtain ⟨x3, hx3, hb_3⟩ := bs hb_3
    refine lp (p_call Fun_88 rfl (fun w1 hw => m_i_isLarge_ok hw.fro N (y3.toNat : Int) hx3)) rfl <| ly rfl rfl <| la rfl <| la rfl ?_
    cases hb_3
    exact kk K ⟨rfl, rfl, rfl, trivial⟩
   ·refine la rfl <| la rfl <| la rfl <| la rfl <| la rfl <| la rfl ?_
    cases hb_3
    exact kk K ⟨rfl, rfl, rfl, trivial⟩
  refine en ?_
  refine cdh rfl h (fun c6 h => ?_) (fun c6 h => ?_)
  ·refine sr <| la rfl <| en ?_
   refine WT.ret Tryd.func77 (resOk.one rfl) (fun w1 hw => ?_)
   subst hb0
   cases h
   exact post_of_St hw
  refine WT.skip <| ib <| rgn <| la rfl <| la rfl <| la rfl <| en ?_
  exact lback (ih1 (IntKind.i64.wrap (s1 + 1)) h) ⟨rfl, rfl, trivial⟩ (fun w1 hw => (hw.sel (js := []) rfl).selO (js := []) rfl)
 refine xt rfl <| sr <| la rfl <| en ?_
 refine WT.ret Tryd.func77 (resOk.one rfl) (fun w1 hw => ?_)
 subst hb0
 cases h
 exact post_of_St hw
theorem m_i_ArgOk_ok {Φ : Hp} {w : World} (hΦ : In Φ w) (N : Nat) (p0 : TArg)   {r : Bool} (h : m_i_ArgOk N p0 = some r) :
  Calls Tryd.prog 60 [.agg [.int .i64 p0.K, .string p0.S, .int .i64 p0.V.K, .int .i64 p0.V.N, .string p0.V.S].toArray].toArray w (Post (.bool r) w) := by
 refine enter Tryd.func60 rfl Tryd.ntmps60 rfl (St.start0 hΦ) ?_
 unfold m_i_ArgOk at h
 refine sr ?_
 refine ln (nb rfl) rfl (fun b_1 => ?_)
 refine la rfl <| en <| sq <| sr <| lf Fld_32_0 rfl rfl rfl <| lo T1_3 0 rfl <| en <| blk <| sr <| la rfl <| la rfl <| en ?_
 refine cdh rfl h (fun c1 h => ?_) (fun c1 h => ?_)
 ·refine sr <| lf Fld_32_1 rfl rfl rfl <| lo T1_9 0 rfl ?_
  obtain ⟨x1, hx1, h⟩ := bs h
  refine lp (p_call Fun_77 rfl (fun w1 hw => m_i_isVar_ok hw.fro N p0.S hx1)) rfl <| la rfl ?_
  obtain ⟨b1, hb_1, h⟩ := bs h
  refine WL.cutN 5 [(15, .bool b1), (2, .bool false)] ?_ (fun K => ?_)
  rotate_left
  ·refine spl 10 rfl hb_1 (fun c2 hb_1 => ?_) (fun c2 hb_1 => ?_)
   ·refine ly rfl rfl <| lf Fld_32_2 rfl rfl rfl <| ly rfl rfl <| ld3 Tn_30 0 rfl <| ly rfl rfl <| lq (q_build (vs := []) (C := #[.int .i64 0, .int .i64 0, .string (⟨#[]⟩ : ByteArray)]) Pl_30 Zr_30 rfl (fill_nil)) rfl <| ly rfl rfl <| lq (q_eqA EqT_30 rfl rfl rfl (r := eqT_TVal p0.V (⟨0, 0, (⟨#[]⟩ : ByteArray)⟩ : TVal)) rfl) rfl <| la rfl ?_
    cases hb_1
    exact kk K ⟨rfl, rfl, trivial⟩
   ·refine la rfl <| la rfl <| la rfl <| la rfl <| la rfl ?_
    cases hb_1
    exact kk K ⟨rfl, rfl, trivial⟩
  refine la rfl <| en ?_
  refine WT.ret Tryd.func60 (resOk.one rfl) (fun w1 hw => ?_)
  cases h
  exact post_of_St hw
 refine sr <| la rfl <| la rfl <| en ?_
 refine cdh rfl h (fun c3 h => ?_) (fun c3 h => ?_)
 ·refine sr <| lf Fld_32_1 rfl rfl rfl <| lo T1_9 0 rfl <| la rfl <| la rfl ?_
  obtain ⟨b2, hb_2, h⟩ := bs h
  refine WL.cutN 4 [(25, .bool b2), (2, .bool false)] ?_ (fun K => ?_)
  rotate_left
  ·refine spl 21 rfl hb_2 (fun c4 hb_2 => ?_) (fun c4 hb_2 => ?_)
   ·refine ly rfl rfl <| lf Fld_32_2 rfl rfl rfl <| ly rfl rfl <| ld3 Tn_30 0 rfl <| ly rfl rfl ?_
    obtain ⟨x2, hx2, hb_2⟩ := bs hb_2
    refine lp (p_call Fun_61 rfl (fun w1 hw => m_i_ValOk_ok hw.fro N p0.V hx2)) rfl <| la rfl ?_
    cases hb_2
    exact kk K ⟨rfl, rfl, trivial⟩
   ·refine la rfl <| la rfl <| la rfl <| la rfl ?_
    cases hb_2
    exact kk K ⟨rfl, rfl, trivial⟩
  refine la rfl <| en ?_
  refine WT.ret Tryd.func60 (resOk.one rfl) (fun w1 hw => ?_)
  cases h
  exact post_of_St hw
 refine sr <| la rfl <| la rfl <| en ?_
 refine cdh rfl h (fun c5 h => ?_) (fun c5 h => ?_)
 ·refine sr <| lf Fld_32_1 rfl rfl rfl <| lo T1_9 0 rfl <| la rfl <| la rfl ?_
  obtain ⟨b3, hb_3, h⟩ := bs h
  refine WL.cutN 5 [(36, .bool b3), (2, .bool false)] ?_ (fun K => ?_)
  rotate_left
  ·refine spl 31 rfl hb_3 (fun c6 hb_3 => ?_) (fun c6 hb_3 => ?_)
   ·refine ly rfl rfl <| lf Fld_32_2 rfl rfl rfl <| ly rfl rfl <| ld3 Tn_30 0 rfl <| ly rfl rfl <| lq (q_build (vs := []) (C := #[.int .i64 0, .int .i64 0, .string (⟨#[]⟩ : ByteArray)]) Pl_30 Zr_30 rfl (fill_nil)) rfl <| ly rfl rfl <| lq (q_eqA EqT_30 rfl rfl rfl (r := eqT_TVal p0.V (⟨0, 0, (⟨#[]⟩ : ByteArray)⟩ : TVal)) rfl) rfl <| la rfl ?_
    cases hb_3
    exact kk K ⟨rfl, rfl, trivial⟩
   ·refine la rfl <| la rfl <| la rfl <| la rfl <| la rfl ?_
    cases hb_3
    exact kk K ⟨rfl, rfl, trivial⟩
  refine la rfl <| en ?_
  refine WT.ret Tryd.func60 (resOk.one rfl) (fun w1 hw => ?_)
  cases h
  exact post_of_St hw
 refine WT.skip <| ib <| sr <| la rfl <| en ?_
 refine WT.ret Tryd.func60 (resOk.one rfl) (fun w1 hw => ?_)
 cases h
 exact post_of_St hw
theorem m_i_isTerm_ok {Φ : Hp} {w : World} (hΦ : In Φ w) (N : Nat) (p0 : TArg)   {r : Bool} (h : m_i_isTerm N p0 = some r) :
  Calls Tryd.prog 46 [.agg [.int .i64 p0.K, .string p0.S, .int .i64 p0.V.K, .int .i64 p0.V.N, .string p0.V.S].toArray].toArray w (Post (.bool r) w) := by
 refine enter Tryd.func46 rfl Tryd.ntmps46 rfl (St.start0 hΦ) ?_
 unfold m_i_isTerm at h
 refine sr ?_
 refine ln (nb rfl) rfl (fun b_1 => ?_)
 refine la rfl <| en <| sr <| lf Fld_32_0 rfl rfl rfl <| lo T1_3 0 rfl <| la rfl <| la rfl ?_
 obtain ⟨b1, hb_1, h⟩ := bs h
 refine WL.cutN 3 [(9, .bool b1), (2, .bool false)] ?_ (fun K => ?_)
 rotate_left
 ·refine spl 6 rfl hb_1 (fun c1 hb_1 => ?_) (fun c1 hb_1 => ?_)
  ·refine ly rfl rfl <| ld5 Tn_32 0 rfl <| ly rfl rfl ?_
   obtain ⟨x1, hx1, hb_1⟩ := bs hb_1
   refine lp (p_call Fun_60 rfl (fun w1 hw => m_i_ArgOk_ok hw.fro N p0 hx1)) rfl <| la rfl ?_
   cases hb_1
   exact kk K ⟨rfl, rfl, trivial⟩
  ·refine la rfl <| la rfl <| la rfl ?_
   cases hb_1
   exact kk K ⟨rfl, rfl, trivial⟩
 refine la rfl <| en ?_
 refine WT.ret Tryd.func46 (resOk.one rfl) (fun w1 hw => ?_)
 cases h
 exact post_of_St hw
theorem m_i_ExprOk_ok {Φ : Hp} {w : World} (hΦ : In Φ w) (N : Nat) (p0 : TExpr)   {r : Bool} (h : m_i_ExprOk N p0 = some r) :
  Calls Tryd.prog 24 [.agg [.string p0.Op, .int .i64 p0.L.K, .string p0.L.S, .int .i64 p0.L.V.K, .int .i64 p0.L.V.N, .string p0.L.V.S, .int .i64 p0.R.K, .string p0.R.S, .int .i64 p0.R.V.K, .int .i64 p0.R.V.N, .string p0.R.V.S].toArray].toArray w (Post (.bool r) w) := by
 refine enter Tryd.func24 rfl Tryd.ntmps24 rfl (St.start0 hΦ) ?_
 generalize hb0 : (⟨w, [], Φ⟩ : Base) = w0
 unfold m_i_ExprOk at h
 refine sr ?_
 refine ln (nb rfl) rfl (fun b_1 => ?_)
 refine la rfl <| en <| sq <| sr <| lf Fld_34_0 rfl rfl rfl <| lo T1_9 0 rfl <| en <| blk <| sr <| la rfl <| la rfl <| en ?_
 refine cdh rfl h (fun c1 h => ?_) (fun c1 h => ?_)
 ·refine sr <| lf Fld_34_1 rfl rfl rfl <| ld5 Tn_32 0 rfl ?_
  obtain ⟨x1, hx1, h⟩ := bs h
  refine lp (p_call Fun_46 rfl (fun w1 hw => m_i_isTerm_ok hw.fro N p0.L hx1)) rfl <| la rfl ?_
  obtain ⟨b1, hb_1, h⟩ := bs h
  refine WL.cutN 5 [(15, .bool b1), (2, .bool false)] ?_ (fun K => ?_)
  rotate_left
  ·refine spl 10 rfl hb_1 (fun c2 hb_1 => ?_) (fun c2 hb_1 => ?_)
   ·refine ly rfl rfl <| lf Fld_34_2 rfl rfl rfl <| ly rfl rfl <| ld5 Tn_32 0 rfl <| ly rfl rfl <| lq (q_build (vs := []) (C := #[.int .i64 0, .string (⟨#[]⟩ : ByteArray), .int .i64 0, .int .i64 0, .string (⟨#[]⟩ : ByteArray)]) Pl_32 Zr_32 rfl (fill_nil)) rfl <| ly rfl rfl <| lq (q_eqA EqT_32 rfl rfl rfl (r := eqT_TArg p0.R (⟨0, (⟨#[]⟩ : ByteArray), (⟨0, 0, (⟨#[]⟩ : ByteArray)⟩ : TVal)⟩ : TArg)) rfl) rfl <| la rfl ?_
    cases hb_1
    exact kk K ⟨rfl, rfl, trivial⟩
   ·refine la rfl <| la rfl <| la rfl <| la rfl <| la rfl ?_
    cases hb_1
    exact kk K ⟨rfl, rfl, trivial⟩
  refine la rfl <| en ?_
  refine WT.ret Tryd.func24 (resOk.one rfl) (fun w1 hw => ?_)
  subst hb0
  cases h
  exact post_of_St hw
 refine sq <| sr <| la rfl <| la rfl <| en ?_
 refine cut (σ := Bool) (fun s => [(1, .pointer (some ⟨b_1, 0, none⟩)), (16, .bool s)]) (fun s => St w0 Φ [(b_1, .cells #[.string p0.Op, .int .i64 p0.L.K, .string p0.L.S, .int .i64 p0.L.V.K, .int .i64 p0.L.V.N, .string p0.L.V.S, .int .i64 p0.R.K, .string p0.R.S, .int .i64 p0.R.V.K, .int .i64 p0.R.V.N, .string p0.R.V.S] 34 (0, 0))] []) (fun s => m_i_ExprOk_j1 N p0 s = some r) (fun s hm => ?_) (fun K => ?_)
 ·clear h
  revert hm; revert s; intro s1 hm
  have h : m_i_ExprOk_j1 N p0 s1 = some r := hm
  show WT _ _ [(1, .pointer (some ⟨b_1, 0, none⟩)), (16, .bool s1)] (St w0 Φ [(b_1, .cells #[.string p0.Op, .int .i64 p0.L.K, .string p0.L.S, .int .i64 p0.L.V.K, .int .i64 p0.L.V.N, .string p0.L.V.S, .int .i64 p0.R.K, .string p0.R.S, .int .i64 p0.R.V.K, .int .i64 p0.R.V.N, .string p0.R.V.S] 34 (0, 0))] [])
  unfold m_i_ExprOk_j1 at h
  refine cdh rfl h (fun c3 h => ?_) (fun c3 h => ?_)
  ·refine sr <| lf Fld_34_1 rfl rfl rfl <| ld5 Tn_32 0 rfl ?_
   obtain ⟨x2, hx2, h⟩ := bs h
   refine lp (p_call Fun_46 rfl (fun w1 hw => m_i_isTerm_ok hw.fro N p0.L hx2)) rfl <| la rfl ?_
   obtain ⟨b2, hb_2, h⟩ := bs h
   refine WL.cutN 4 [(26, .bool b2)] ?_ (fun K => ?_)
   rotate_left
   ·refine spl 22 rfl hb_2 (fun c4 hb_2 => ?_) (fun c4 hb_2 => ?_)
    ·refine ly rfl rfl <| lf Fld_34_2 rfl rfl rfl <| ly rfl rfl <| ld5 Tn_32 0 rfl <| ly rfl rfl ?_
     obtain ⟨x3, hx3, hb_2⟩ := bs hb_2
     refine lp (p_call Fun_46 rfl (fun w1 hw => m_i_isTerm_ok hw.fro N p0.R hx3)) rfl <| la rfl ?_
     cases hb_2
     exact kk K ⟨rfl, trivial⟩
    ·refine la rfl <| la rfl <| la rfl <| la rfl ?_
     cases hb_2
     exact kk K ⟨rfl, trivial⟩
   refine la rfl <| en ?_
   refine WT.ret Tryd.func24 (resOk.one rfl) (fun w1 hw => ?_)
   subst hb0
   cases h
   exact post_of_St hw
  refine WT.skip <| ib <| sr <| la rfl <| en ?_
  refine WT.ret Tryd.func24 (resOk.one rfl) (fun w1 hw => ?_)
  subst hb0
  cases h
  exact post_of_St hw
 refine cdh rfl h (fun c5 h => ?_) (fun c5 h => ?_)
 ·refine WT.skip ?_
  exact wto (K (seq p0.Op (⟨#[43]⟩ : ByteArray)) h) ⟨rfl, rfl, trivial⟩ (fun w1 hw => (hw.sel (js := []) rfl).selO (js := [0]) rfl)
 refine rgn <| la rfl <| la rfl <| en ?_
 exact wto (K (seq p0.Op (⟨#[45]⟩ : ByteArray)) h) ⟨rfl, rfl, trivial⟩ (fun w1 hw => (hw.sel (js := []) rfl).selO (js := [0]) rfl)
theorem m_i_NameOk_ok {Φ : Hp} {w : World} (hΦ : In Φ w) (N : Nat) (p0 : ByteArray)   {r : Bool} (h : m_i_NameOk N p0 = some r) :
  Calls Tryd.prog 56 [.string p0].toArray w (Post (.bool r) w) := by
 refine enter Tryd.func56 rfl Tryd.ntmps56 rfl (St.start0 hΦ) ?_
 unfold m_i_NameOk at h
 refine sr <| la rfl <| en <| sr <| la rfl <| lq (q_lenS Str_9 rfl rfl) rfl <| la rfl <| la rfl ?_
 obtain ⟨b1, hb_1, h⟩ := bs h
 refine WL.cutN 4 [(10, .bool b1), (0, .string p0), (2, .bool false)] ?_ (fun K => ?_)
 rotate_left
 ·refine spl 6 rfl hb_1 (fun c1 hb_1 => ?_) (fun c1 hb_1 => ?_)
  ·refine ly rfl rfl <| la rfl <| ly rfl rfl ?_
   obtain ⟨y1, hy1, hb_1⟩ := bs hb_1
   refine lq (q_indexS Str_9 rfl rfl hy1) rfl <| ly rfl rfl ?_
   obtain ⟨x1, hx1, hb_1⟩ := bs hb_1
   refine lp (p_call Fun_72 rfl (fun w1 hw => m_i_isSmall_ok hw.fro N (y1.toNat : Int) hx1)) rfl <| la rfl ?_
   cases hb_1
   exact kk K ⟨rfl, rfl, rfl, trivial⟩
  ·refine la rfl <| la rfl <| la rfl <| la rfl ?_
   cases hb_1
   exact kk K ⟨rfl, rfl, rfl, trivial⟩
 refine la rfl ?_
 obtain ⟨b2, hb_2, h⟩ := bs h
 refine WL.cutN 3 [(14, .bool b2), (2, .bool false)] ?_ (fun K => ?_)
 rotate_left
 ·refine spl 11 rfl hb_2 (fun c2 hb_2 => ?_) (fun c2 hb_2 => ?_)
  ·refine ly rfl rfl <| la rfl <| ly rfl rfl ?_
   obtain ⟨x2, hx2, hb_2⟩ := bs hb_2
   refine lp (p_call Fun_73 rfl (fun w1 hw => m_i_isWord_ok hw.fro N p0 12 hx2)) rfl <| la rfl ?_
   cases hb_2
   exact kk K ⟨rfl, rfl, trivial⟩
  ·refine la rfl <| la rfl <| la rfl ?_
   cases hb_2
   exact kk K ⟨rfl, rfl, trivial⟩
 refine la rfl <| en ?_
 refine WT.ret Tryd.func56 (resOk.one rfl) (fun w1 hw => ?_)
 cases h
 exact post_of_St hw
theorem m_i_argsOk_ok {Φ : Hp} {w : World} (hΦ : In Φ w) (N : Nat) (p0 : TAct) {pv0_0 : Value} {pG0_0 : List Nat} (ph0_0 : RSl RTExpr 11 Φ pG0_0 pv0_0 p0.Args) {r : Bool} (h : m_i_argsOk N p0 = some r) :
  Calls Tryd.prog 31 [.agg [.int .i64 p0.Kind, .string p0.Name, pv0_0, .int .i64 p0.N, .string p0.Undo].toArray].toArray w (Post (.bool r) w) := by
 refine enter Tryd.func31 rfl Tryd.ntmps31 rfl (St.start0 hΦ) ?_
 generalize hb0 : (⟨w, [], Φ⟩ : Base) = w0
 unfold m_i_argsOk at h
 refine sr ?_
 refine ln (nb rfl) rfl (fun b_1 => ?_)
 refine la rfl <| en <| sq <| sr <| lf Fld_41_1 rfl rfl rfl <| lo T1_9 0 rfl ?_
 obtain ⟨x1, hx1, h⟩ := bs h
 refine lp (p_call Fun_56 rfl (fun w1 hw => m_i_NameOk_ok hw.fro N p0.Name hx1)) rfl <| la rfl <| la rfl ?_
 obtain ⟨b1, hb_1, h⟩ := bs h
 refine WL.cutN 5 [(14, .bool b1), (1, .pointer (some ⟨b_1, 0, none⟩))] ?_ (fun K => ?_)
 rotate_left
 ·refine spl 9 rfl hb_1 (fun c1 hb_1 => ?_) (fun c1 hb_1 => ?_)
  ·refine la rfl <| la rfl <| la rfl <| la rfl <| la rfl ?_
   cases hb_1
   exact kk K ⟨rfl, rfl, trivial⟩
  ·refine ly rfl rfl <| lf Fld_41_2 rfl rfl rfl <| ly rfl rfl <| lo T1_39 0 rfl <| ly rfl rfl <| lq (q_lenR Sl_39 rfl rfl ph0_0) rfl <| ly rfl rfl <| la rfl <| la rfl ?_
   cases hb_1
   exact kk K ⟨rfl, rfl, trivial⟩
 refine en ?_
 refine cdh rfl h (fun c2 h => ?_) (fun c2 h => ?_)
 ·refine sr <| la rfl <| en ?_
  refine WT.ret Tryd.func31 (resOk.one rfl) (fun w1 hw => ?_)
  subst hb0
  cases h
  exact post_of_St hw
 refine WT.skip <| sq <| sr <| lf Fld_41_2 rfl rfl rfl <| lo T1_39 0 rfl <| lq (q_lenR Sl_39 rfl rfl ph0_0) rfl <| la rfl <| en <| blk ?_
 refine loop_in (σ := Int) (fun s => [(16, pv0_0), (17, .int .i64 (p0.Args.length : Int)), (18, .int .i64 s)]) (fun s => St w0 Φ [] []) (fun m s => m_i_argsOk_l1 N p0 m s = some r) (0) N h ⟨rfl, rfl, rfl, trivial⟩ (fun w1 hw => (hw.sel (js := []) rfl).selO (js := []) rfl) (fun s hm => none_ne hm) (fun n1 ih1 s hm => ?_)
 revert hm; revert s; intro s1 hm
 have h : m_i_argsOk_l1 N p0 (n1 + 1) s1 = some r := hm
 show WT _ _ [(16, pv0_0), (17, .int .i64 (p0.Args.length : Int)), (18, .int .i64 s1)] (St w0 Φ [] [])
 unfold m_i_argsOk_l1 at h
 refine sr <| la rfl <| en <| sq ?_
 refine cdh rfl h (fun c3 h => ?_) (fun c3 h => ?_)
 ·refine WT.skip <| sq <| blk <| sr ?_
  obtain ⟨x2, hx2, h⟩ := bs h
  obtain ⟨cs1, F1, -, g1, hb1, hs1, r1⟩ := ph0_0.el (idx_some hx2).2.2
  obtain ⟨rfl, -⟩ := r1
  refine lq (q_indexAddr Sl_39 rfl rfl ph0_0 hx2) rfl <| lg11 0 Tn_34 g1 rfl rfl ?_
  refine ln (nz Zr_34) rfl (fun b_2 => ?_)
  refine soN 0 Sz_34 rfl ⟨rfl, rfl, rfl, rfl, rfl, rfl, rfl, rfl, rfl, rfl, rfl, trivial⟩ rfl ?_
  refine en <| sr <| ld11 Tn_34 0 rfl ?_
  obtain ⟨x3, hx3, h⟩ := bs h
  refine lp (p_call Fun_24 rfl (fun w1 hw => m_i_ExprOk_ok hw.fro N x2 hx3)) rfl <| la rfl <| en ?_
  refine cdh rfl h (fun c4 h => ?_) (fun c4 h => ?_)
  ·refine sr <| la rfl <| en ?_
   refine WT.ret Tryd.func31 (resOk.one rfl) (fun w1 hw => ?_)
   subst hb0
   cases h
   exact post_of_St hw
  refine WT.skip <| ib <| rgn <| la rfl <| la rfl <| en ?_
  exact lback (ih1 (IntKind.i64.wrap (s1 + 1)) h) ⟨rfl, rfl, rfl, trivial⟩ (fun w1 hw => (hw.sel (js := []) rfl).selO (js := []) rfl)
 refine xt rfl <| sr <| la rfl <| en ?_
 refine WT.ret Tryd.func31 (resOk.one rfl) (fun w1 hw => ?_)
 subst hb0
 cases h
 exact post_of_St hw
theorem m_i_isUndo_ok {Φ : Hp} {w : World} (hΦ : In Φ w) (N : Nat) (p0 : ByteArray)   {r : Bool} (h : m_i_isUndo N p0 = some r) :
  Calls Tryd.prog 33 [.string p0].toArray w (Post (.bool r) w) := by
 refine enter Tryd.func33 rfl Tryd.ntmps33 rfl (St.start0 hΦ) ?_
 unfold m_i_isUndo at h
 refine sr <| la rfl <| en <| sr <| la rfl <| la rfl <| la rfl ?_
 obtain ⟨b1, hb_1, h⟩ := bs h
 refine WL.cutN 3 [(8, .bool b1), (2, .bool false)] ?_ (fun K => ?_)
 rotate_left
 ·refine spl 5 rfl hb_1 (fun c1 hb_1 => ?_) (fun c1 hb_1 => ?_)
  ·refine la rfl <| la rfl <| la rfl ?_
   cases hb_1
   exact kk K ⟨rfl, rfl, trivial⟩
  ·refine ly rfl rfl <| la rfl <| ly rfl rfl ?_
   obtain ⟨x1, hx1, hb_1⟩ := bs hb_1
   refine lp (p_call Fun_56 rfl (fun w1 hw => m_i_NameOk_ok hw.fro N p0 hx1)) rfl <| la rfl ?_
   cases hb_1
   exact kk K ⟨rfl, rfl, trivial⟩
 refine la rfl <| en ?_
 refine WT.ret Tryd.func33 (resOk.one rfl) (fun w1 hw => ?_)
 cases h
 exact post_of_St hw
theorem m_i_ActOk_ok {Φ : Hp} {w : World} (hΦ : In Φ w) (N : Nat) (p0 : TAct) {pv0_0 : Value} {pG0_0 : List Nat} (ph0_0 : RSl RTExpr 11 Φ pG0_0 pv0_0 p0.Args) {r : Bool} (h : m_i_ActOk N p0 = some r) :
  Calls Tryd.prog 14 [.agg [.int .i64 p0.Kind, .string p0.Name, pv0_0, .int .i64 p0.N, .string p0.Undo].toArray].toArray w (Post (.bool r) w) := by
 refine enter Tryd.func14 rfl Tryd.ntmps14 rfl (St.start0 hΦ) ?_
 generalize hb0 : (⟨w, [], Φ⟩ : Base) = w0
 unfold m_i_ActOk at h
 refine sr ?_
 refine ln (nb rfl) rfl (fun b_1 => ?_)
 refine la rfl <| en <| sr <| lf Fld_41_1 rfl rfl rfl <| lo T1_9 0 rfl <| la rfl <| la rfl ?_
 obtain ⟨b1, hb_1, h⟩ := bs h
 refine WL.cutN 5 [(12, .bool b1), (1, .pointer (some ⟨b_1, 0, none⟩))] ?_ (fun K => ?_)
 rotate_left
 ·refine spl 7 rfl hb_1 (fun c1 hb_1 => ?_) (fun c1 hb_1 => ?_)
  ·refine ly rfl rfl <| lf Fld_41_2 rfl rfl rfl <| ly rfl rfl <| lo T1_39 0 rfl <| ly rfl rfl <| lq (q_lenR Sl_39 rfl rfl ph0_0) rfl <| ly rfl rfl <| la rfl <| la rfl ?_
   cases hb_1
   exact kk K ⟨rfl, rfl, trivial⟩
  ·refine la rfl <| la rfl <| la rfl <| la rfl <| la rfl ?_
   cases hb_1
   exact kk K ⟨rfl, rfl, trivial⟩
 refine la rfl <| en <| sq <| sr <| lf Fld_41_0 rfl rfl rfl <| lo T1_3 0 rfl <| en <| blk <| sr <| la rfl <| la rfl <| en ?_
 refine cdh rfl h (fun c2 h => ?_) (fun c2 h => ?_)
 ·refine sr <| ld5 Tn_41 0 rfl ?_
  obtain ⟨x1, hx1, h⟩ := bs h
  refine lp (p_call Fun_31 rfl (fun w1 hw => m_i_argsOk_ok hw.fro N p0 ph0_0 hx1)) rfl <| la rfl ?_
  obtain ⟨b2, hb_2, h⟩ := bs h
  refine WL.cutN 4 [(23, .bool b2), (1, .pointer (some ⟨b_1, 0, none⟩))] ?_ (fun K => ?_)
  rotate_left
  ·refine spl 19 rfl hb_2 (fun c3 hb_2 => ?_) (fun c3 hb_2 => ?_)
   ·refine ly rfl rfl <| lf Fld_41_3 rfl rfl rfl <| ly rfl rfl <| lo T1_3 0 rfl <| ly rfl rfl <| la rfl <| la rfl ?_
    cases hb_2
    exact kk K ⟨rfl, rfl, trivial⟩
   ·refine la rfl <| la rfl <| la rfl <| la rfl ?_
    cases hb_2
    exact kk K ⟨rfl, rfl, trivial⟩
  refine la rfl ?_
  obtain ⟨b3, hb_3, h⟩ := bs h
  refine WL.cutN 4 [(28, .bool b3)] ?_ (fun K => ?_)
  rotate_left
  ·refine spl 24 rfl hb_3 (fun c4 hb_3 => ?_) (fun c4 hb_3 => ?_)
   ·refine ly rfl rfl <| lf Fld_41_4 rfl rfl rfl <| ly rfl rfl <| lo T1_9 0 rfl <| ly rfl rfl <| la rfl <| la rfl ?_
    cases hb_3
    exact kk K ⟨rfl, trivial⟩
   ·refine la rfl <| la rfl <| la rfl <| la rfl ?_
    cases hb_3
    exact kk K ⟨rfl, trivial⟩
  refine la rfl <| en ?_
  refine WT.ret Tryd.func14 (resOk.one rfl) (fun w1 hw => ?_)
  subst hb0
  cases h
  exact post_of_St hw
 refine sr <| la rfl <| la rfl <| en ?_
 refine cdh rfl h (fun c5 h => ?_) (fun c5 h => ?_)
 ·refine sr <| la rfl <| la rfl ?_
  obtain ⟨b4, hb_4, h⟩ := bs h
  refine WL.cutN 4 [(36, .bool b4), (1, .pointer (some ⟨b_1, 0, none⟩))] ?_ (fun K => ?_)
  rotate_left
  ·refine spl 32 rfl hb_4 (fun c6 hb_4 => ?_) (fun c6 hb_4 => ?_)
   ·refine ly rfl rfl <| lf Fld_41_3 rfl rfl rfl <| ly rfl rfl <| lo T1_3 0 rfl <| ly rfl rfl ?_
    obtain ⟨x2, hx2, hb_4⟩ := bs hb_4
    refine lp (p_call Fun_32 rfl (fun w1 hw => m_i_inRange_ok hw.fro N p0.N 0 7 hx2)) rfl <| la rfl ?_
    cases hb_4
    exact kk K ⟨rfl, rfl, trivial⟩
   ·refine la rfl <| la rfl <| la rfl <| la rfl ?_
    cases hb_4
    exact kk K ⟨rfl, rfl, trivial⟩
  refine la rfl ?_
  obtain ⟨b5, hb_5, h⟩ := bs h
  refine WL.cutN 4 [(41, .bool b5)] ?_ (fun K => ?_)
  rotate_left
  ·refine spl 37 rfl hb_5 (fun c7 hb_5 => ?_) (fun c7 hb_5 => ?_)
   ·refine ly rfl rfl <| lf Fld_41_4 rfl rfl rfl <| ly rfl rfl <| lo T1_9 0 rfl <| ly rfl rfl <| la rfl <| la rfl ?_
    cases hb_5
    exact kk K ⟨rfl, trivial⟩
   ·refine la rfl <| la rfl <| la rfl <| la rfl ?_
    cases hb_5
    exact kk K ⟨rfl, trivial⟩
  refine la rfl <| en ?_
  refine WT.ret Tryd.func14 (resOk.one rfl) (fun w1 hw => ?_)
  subst hb0
  cases h
  exact post_of_St hw
 refine sr <| la rfl <| la rfl <| en ?_
 refine cdh rfl h (fun c8 h => ?_) (fun c8 h => ?_)
 ·refine sr <| ld5 Tn_41 0 rfl ?_
  obtain ⟨x3, hx3, h⟩ := bs h
  refine lp (p_call Fun_31 rfl (fun w1 hw => m_i_argsOk_ok hw.fro N p0 ph0_0 hx3)) rfl <| la rfl ?_
  obtain ⟨b6, hb_6, h⟩ := bs h
  refine WL.cutN 4 [(50, .bool b6), (1, .pointer (some ⟨b_1, 0, none⟩))] ?_ (fun K => ?_)
  rotate_left
  ·refine spl 46 rfl hb_6 (fun c9 hb_6 => ?_) (fun c9 hb_6 => ?_)
   ·refine ly rfl rfl <| lf Fld_41_3 rfl rfl rfl <| ly rfl rfl <| lo T1_3 0 rfl <| ly rfl rfl <| la rfl <| la rfl ?_
    cases hb_6
    exact kk K ⟨rfl, rfl, trivial⟩
   ·refine la rfl <| la rfl <| la rfl <| la rfl ?_
    cases hb_6
    exact kk K ⟨rfl, rfl, trivial⟩
  refine la rfl ?_
  obtain ⟨b7, hb_7, h⟩ := bs h
  refine WL.cutN 4 [(55, .bool b7)] ?_ (fun K => ?_)
  rotate_left
  ·refine spl 51 rfl hb_7 (fun c10 hb_7 => ?_) (fun c10 hb_7 => ?_)
   ·refine ly rfl rfl <| lf Fld_41_4 rfl rfl rfl <| ly rfl rfl <| lo T1_9 0 rfl <| ly rfl rfl ?_
    obtain ⟨x4, hx4, hb_7⟩ := bs hb_7
    refine lp (p_call Fun_33 rfl (fun w1 hw => m_i_isUndo_ok hw.fro N p0.Undo hx4)) rfl <| la rfl ?_
    cases hb_7
    exact kk K ⟨rfl, trivial⟩
   ·refine la rfl <| la rfl <| la rfl <| la rfl ?_
    cases hb_7
    exact kk K ⟨rfl, trivial⟩
  refine la rfl <| en ?_
  refine WT.ret Tryd.func14 (resOk.one rfl) (fun w1 hw => ?_)
  subst hb0
  cases h
  exact post_of_St hw
 refine sr <| la rfl <| la rfl <| en ?_
 refine cdh rfl h (fun c11 h => ?_) (fun c11 h => ?_)
 ·refine sr <| ld5 Tn_41 0 rfl ?_
  obtain ⟨x5, hx5, h⟩ := bs h
  refine lp (p_call Fun_31 rfl (fun w1 hw => m_i_argsOk_ok hw.fro N p0 ph0_0 hx5)) rfl <| la rfl ?_
  obtain ⟨b8, hb_8, h⟩ := bs h
  refine WL.cutN 4 [(64, .bool b8), (1, .pointer (some ⟨b_1, 0, none⟩))] ?_ (fun K => ?_)
  rotate_left
  ·refine spl 60 rfl hb_8 (fun c12 hb_8 => ?_) (fun c12 hb_8 => ?_)
   ·refine ly rfl rfl <| lf Fld_41_3 rfl rfl rfl <| ly rfl rfl <| lo T1_3 0 rfl <| ly rfl rfl ?_
    obtain ⟨x6, hx6, hb_8⟩ := bs hb_8
    refine lp (p_call Fun_32 rfl (fun w1 hw => m_i_inRange_ok hw.fro N p0.N 0 100000 hx6)) rfl <| la rfl ?_
    cases hb_8
    exact kk K ⟨rfl, rfl, trivial⟩
   ·refine la rfl <| la rfl <| la rfl <| la rfl ?_
    cases hb_8
    exact kk K ⟨rfl, rfl, trivial⟩
  refine la rfl ?_
  obtain ⟨b9, hb_9, h⟩ := bs h
  refine WL.cutN 4 [(69, .bool b9)] ?_ (fun K => ?_)
  rotate_left
  ·refine spl 65 rfl hb_9 (fun c13 hb_9 => ?_) (fun c13 hb_9 => ?_)
   ·refine ly rfl rfl <| lf Fld_41_4 rfl rfl rfl <| ly rfl rfl <| lo T1_9 0 rfl <| ly rfl rfl <| la rfl <| la rfl ?_
    cases hb_9
    exact kk K ⟨rfl, trivial⟩
   ·refine la rfl <| la rfl <| la rfl <| la rfl ?_
    cases hb_9
    exact kk K ⟨rfl, trivial⟩
  refine la rfl <| en ?_
  refine WT.ret Tryd.func14 (resOk.one rfl) (fun w1 hw => ?_)
  subst hb0
  cases h
  exact post_of_St hw
 refine sq <| sr <| la rfl <| la rfl <| en ?_
 refine cut (σ := Bool) (fun s => [(1, .pointer (some ⟨b_1, 0, none⟩)), (3, .bool b1), (70, .bool s)]) (fun s => St w0 Φ [(b_1, .cells #[.int .i64 p0.Kind, .string p0.Name, pv0_0, .int .i64 p0.N, .string p0.Undo] 41 (0, 0))] []) (fun s => m_i_ActOk_j1 N p0 b1 s = some r) (fun s hm => ?_) (fun K => ?_)
 ·clear h
  revert hm; revert s; intro s1 hm
  have h : m_i_ActOk_j1 N p0 b1 s1 = some r := hm
  show WT _ _ [(1, .pointer (some ⟨b_1, 0, none⟩)), (3, .bool b1), (70, .bool s1)] (St w0 Φ [(b_1, .cells #[.int .i64 p0.Kind, .string p0.Name, pv0_0, .int .i64 p0.N, .string p0.Undo] 41 (0, 0))] [])
  unfold m_i_ActOk_j1 at h
  refine cdh rfl h (fun c14 h => ?_) (fun c14 h => ?_)
  ·refine sr <| la rfl <| la rfl ?_
   obtain ⟨b10, hb_10, h⟩ := bs h
   refine WL.cutN 4 [(78, .bool b10), (1, .pointer (some ⟨b_1, 0, none⟩))] ?_ (fun K => ?_)
   rotate_left
   ·refine spl 74 rfl hb_10 (fun c15 hb_10 => ?_) (fun c15 hb_10 => ?_)
    ·refine ly rfl rfl <| lf Fld_41_3 rfl rfl rfl <| ly rfl rfl <| lo T1_3 0 rfl <| ly rfl rfl <| la rfl <| la rfl ?_
     cases hb_10
     exact kk K ⟨rfl, rfl, trivial⟩
    ·refine la rfl <| la rfl <| la rfl <| la rfl ?_
     cases hb_10
     exact kk K ⟨rfl, rfl, trivial⟩
   refine la rfl ?_
   obtain ⟨b11, hb_11, h⟩ := bs h
   refine WL.cutN 4 [(83, .bool b11)] ?_ (fun K => ?_)
   rotate_left
   ·refine spl 79 rfl hb_11 (fun c16 hb_11 => ?_) (fun c16 hb_11 => ?_)
    ·refine ly rfl rfl <| lf Fld_41_4 rfl rfl rfl <| ly rfl rfl <| lo T1_9 0 rfl <| ly rfl rfl <| la rfl <| la rfl ?_
     cases hb_11
     exact kk K ⟨rfl, trivial⟩
    ·refine la rfl <| la rfl <| la rfl <| la rfl ?_
     cases hb_11
     exact kk K ⟨rfl, trivial⟩
   refine la rfl <| en ?_
   refine WT.ret Tryd.func14 (resOk.one rfl) (fun w1 hw => ?_)
   subst hb0
   cases h
   exact post_of_St hw
  refine WT.skip <| ib <| sr <| la rfl <| en ?_
  refine WT.ret Tryd.func14 (resOk.one rfl) (fun w1 hw => ?_)
  subst hb0
  cases h
  exact post_of_St hw
 refine cdh rfl h (fun c17 h => ?_) (fun c17 h => ?_)
 ·refine WT.skip ?_
  exact wto (K (decide (p0.Kind = 5)) h) ⟨rfl, rfl, rfl, trivial⟩ (fun w1 hw => (hw.sel (js := []) rfl).selO (js := [0]) rfl)
 refine rgn <| la rfl <| la rfl <| en ?_
 exact wto (K (decide (p0.Kind = 6)) h) ⟨rfl, rfl, rfl, trivial⟩ (fun w1 hw => (hw.sel (js := []) rfl).selO (js := [0]) rfl)
theorem m_i_ValText_ok {Φ : Hp} {w : World} (hΦ : In Φ w) (N : Nat) (p0 : TVal)  (hT : Tab Φ) {r : ByteArray} (h : m_i_ValText N p0 = some r) :
  Calls Tryd.prog 47 [.agg [.int .i64 p0.K, .int .i64 p0.N, .string p0.S].toArray].toArray w (Post (.string r) w) := by
 refine enter Tryd.func47 rfl Tryd.ntmps47 rfl (St.start0 hΦ) ?_
 generalize hb0 : (⟨w, [], Φ⟩ : Base) = w0
 unfold m_i_ValText at h
 refine sr ?_
 refine ln (nb rfl) rfl (fun b_1 => ?_)
 refine la rfl <| en <| sq <| sr <| ld3 Tn_30 0 rfl ?_
 obtain ⟨x1, hx1, h⟩ := bs h
 refine lp (p_call Fun_61 rfl (fun w1 hw => m_i_ValOk_ok hw.fro N p0 hx1)) rfl <| la rfl <| en ?_
 refine cdh rfl h (fun c1 h => ?_) (fun c1 h => ?_)
 ·refine sr <| la rfl <| en ?_
  refine WT.ret Tryd.func47 (resOk.one rfl) (fun w1 hw => ?_)
  subst hb0
  cases h
  exact post_of_St hw
 refine WT.skip <| sq <| sr <| lf Fld_30_0 rfl rfl rfl <| lo T1_3 0 rfl <| la rfl <| en ?_
 refine cdh rfl h (fun c2 h => ?_) (fun c2 h => ?_)
 ·refine sr <| lf Fld_30_1 rfl rfl rfl <| lo T1_3 0 rfl ?_
  obtain ⟨x2, hx2, h⟩ := bs h
  refine lp (p_call Fun_30 rfl (fun w1 hw => m_strconv_Itoa_ok hw.fro N p0.N (hT.fr (by subst hb0; exact hw.frB hΦ)) hx2)) rfl <| la rfl <| en ?_
  refine WT.ret Tryd.func47 (resOk.one rfl) (fun w1 hw => ?_)
  subst hb0
  cases h
  exact post_of_St hw
 refine WT.skip <| sr <| lf Fld_30_2 rfl rfl rfl <| lo T1_9 0 rfl ?_
 obtain ⟨z1, hz1, h⟩ := bs h
 refine lq (q_cat rfl rfl hz1) rfl ?_
 obtain ⟨z2, hz2, h⟩ := bs h
 refine lq (q_cat rfl rfl hz2) rfl <| la rfl <| en ?_
 refine WT.ret Tryd.func47 (resOk.one rfl) (fun w1 hw => ?_)
 subst hb0
 cases h
 exact post_of_St hw
theorem m_i_argText_ok {Φ : Hp} {w : World} (hΦ : In Φ w) (N : Nat) (p0 : TArg)  (hT : Tab Φ) {r : ByteArray} (h : m_i_argText N p0 = some r) :
  Calls Tryd.prog 25 [.agg [.int .i64 p0.K, .string p0.S, .int .i64 p0.V.K, .int .i64 p0.V.N, .string p0.V.S].toArray].toArray w (Post (.string r) w) := by
 refine enter Tryd.func25 rfl Tryd.ntmps25 rfl (St.start0 hΦ) ?_
 generalize hb0 : (⟨w, [], Φ⟩ : Base) = w0
 unfold m_i_argText at h
 refine sr ?_
 refine ln (nb rfl) rfl (fun b_1 => ?_)
 refine la rfl <| en <| sq <| sr <| lf Fld_32_0 rfl rfl rfl <| lo T1_3 0 rfl <| en <| blk <| sr <| la rfl <| la rfl <| en ?_
 refine cdh rfl h (fun c1 h => ?_) (fun c1 h => ?_)
 ·refine sr <| lf Fld_32_1 rfl rfl rfl <| lo T1_9 0 rfl <| la rfl <| en ?_
  refine WT.ret Tryd.func25 (resOk.one rfl) (fun w1 hw => ?_)
  subst hb0
  cases h
  exact post_of_St hw
 refine sr <| la rfl <| la rfl <| en ?_
 refine cdh rfl h (fun c2 h => ?_) (fun c2 h => ?_)
 ·refine sr <| lf Fld_32_2 rfl rfl rfl <| ld3 Tn_30 0 rfl ?_
  obtain ⟨x1, hx1, h⟩ := bs h
  refine lp (p_call Fun_47 rfl (fun w1 hw => m_i_ValText_ok hw.fro N p0.V (hT.fr (by subst hb0; exact hw.frB hΦ)) hx1)) rfl <| la rfl <| en ?_
  refine WT.ret Tryd.func25 (resOk.one rfl) (fun w1 hw => ?_)
  subst hb0
  cases h
  exact post_of_St hw
 refine WT.skip <| ib <| sr <| la rfl <| en ?_
 refine WT.ret Tryd.func25 (resOk.one rfl) (fun w1 hw => ?_)
 subst hb0
 cases h
 exact post_of_St hw
theorem m_i_ExprText_ok {Φ : Hp} {w : World} (hΦ : In Φ w) (N : Nat) (p0 : TExpr)  (hT : Tab Φ) {r : ByteArray} (h : m_i_ExprText N p0 = some r) :
  Calls Tryd.prog 9 [.agg [.string p0.Op, .int .i64 p0.L.K, .string p0.L.S, .int .i64 p0.L.V.K, .int .i64 p0.L.V.N, .string p0.L.V.S, .int .i64 p0.R.K, .string p0.R.S, .int .i64 p0.R.V.K, .int .i64 p0.R.V.N, .string p0.R.V.S].toArray].toArray w (Post (.string r) w) := by
 refine enter Tryd.func9 rfl Tryd.ntmps9 rfl (St.start0 hΦ) ?_
 generalize hb0 : (⟨w, [], Φ⟩ : Base) = w0
 unfold m_i_ExprText at h
 refine sr ?_
 refine ln (nb rfl) rfl (fun b_1 => ?_)
 refine la rfl <| en <| sq <| sr <| ld11 Tn_34 0 rfl ?_
 obtain ⟨x1, hx1, h⟩ := bs h
 refine lp (p_call Fun_24 rfl (fun w1 hw => m_i_ExprOk_ok hw.fro N p0 hx1)) rfl <| la rfl <| en ?_
 refine cdh rfl h (fun c1 h => ?_) (fun c1 h => ?_)
 ·refine sr <| la rfl <| en ?_
  refine WT.ret Tryd.func9 (resOk.one rfl) (fun w1 hw => ?_)
  subst hb0
  cases h
  exact post_of_St hw
 refine WT.skip <| sq <| sr <| lf Fld_34_0 rfl rfl rfl <| lo T1_9 0 rfl <| la rfl <| en ?_
 refine cdh rfl h (fun c2 h => ?_) (fun c2 h => ?_)
 ·refine sr <| lf Fld_34_1 rfl rfl rfl <| ld5 Tn_32 0 rfl ?_
  obtain ⟨x2, hx2, h⟩ := bs h
  refine lp (p_call Fun_25 rfl (fun w1 hw => m_i_argText_ok hw.fro N p0.L (hT.fr (by subst hb0; exact hw.frB hΦ)) hx2)) rfl <| la rfl <| en ?_
  refine WT.ret Tryd.func9 (resOk.one rfl) (fun w1 hw => ?_)
  subst hb0
  cases h
  exact post_of_St hw
 refine WT.skip <| sq <| WT.draw mixed (by kernel_rfl) (fun _ h => h.drew) <| qq (q_fieldAddr Fld_34_1 rfl) rfl <| qq (q_loadN Tn_32 rfl (fun w1 hw => hw.rgO (i := 0) rfl 1 5 [.int .i64 p0.L.K, .string p0.L.S, .int .i64 p0.L.V.K, .int .i64 p0.L.V.N, .string p0.L.V.S] rfl) rfl) rfl ?_
 obtain ⟨x3, hx3, h⟩ := bs h
 refine qp (p_call Fun_25 rfl (fun w1 hw => m_i_argText_ok hw.fro N p0.L (hT.fr (by subst hb0; exact hw.frB hΦ)) hx3)) rfl ?_
 obtain ⟨z1, hz1, h⟩ := bs h
 refine qq (q_cat rfl rfl hz1) rfl <| qq (q_fieldAddr Fld_34_0 rfl) rfl <| qq (q_load1 T1_9 rfl (fun w1 hw => hw.rgO (i := 0) rfl 0 1 [.string p0.Op] rfl)) rfl ?_
 obtain ⟨z2, hz2, h⟩ := bs h
 refine qq (q_cat rfl rfl hz2) rfl ?_
 obtain ⟨z3, hz3, h⟩ := bs h
 refine qq (q_cat rfl rfl hz3) rfl <| qq (q_fieldAddr Fld_34_2 rfl) rfl <| qq (q_loadN Tn_32 rfl (fun w1 hw => hw.rgO (i := 0) rfl 6 5 [.int .i64 p0.R.K, .string p0.R.S, .int .i64 p0.R.V.K, .int .i64 p0.R.V.N, .string p0.R.V.S] rfl) rfl) rfl ?_
 obtain ⟨x4, hx4, h⟩ := bs h
 refine qp (p_call Fun_25 rfl (fun w1 hw => m_i_argText_ok hw.fro N p0.R (hT.fr (by subst hb0; exact hw.frB hΦ)) hx4)) rfl ?_
 obtain ⟨z4, hz4, h⟩ := bs h
 refine qq (q_cat rfl rfl hz4) rfl <| qq (q_assign rfl) rfl <| WQ.nil ?_
 refine WT.ret Tryd.func9 (resOk.one rfl) (fun w1 hw => ?_)
 subst hb0
 cases h
 exact post_of_St hw
theorem m_i_callText_ok {Φ : Hp} {w : World} (hΦ : In Φ w) (N : Nat) (p0 : TAct) {pv0_0 : Value} {pG0_0 : List Nat} (hT : Tab Φ) (ph0_0 : RSl RTExpr 11 Φ pG0_0 pv0_0 p0.Args) {r : ByteArray} (h : m_i_callText N p0 = some r) :
  Calls Tryd.prog 29 [.agg [.int .i64 p0.Kind, .string p0.Name, pv0_0, .int .i64 p0.N, .string p0.Undo].toArray].toArray w (Post (.string r) w) := by
 refine enter Tryd.func29 rfl Tryd.ntmps29 rfl (St.start0 hΦ) ?_
 have pa0_0 := Old.mk hΦ ph0_0.kn (Dj.empty _)
 revert pa0_0
 generalize hb0 : (⟨w, [], Φ⟩ : Base) = w0
 intro pa0_0
 unfold m_i_callText at h
 refine sr ?_
 refine ln (nb rfl) rfl (fun b_1 => ?_)
 refine la rfl <| en <| sr <| la rfl <| en <| sq <| sr <| lf Fld_41_2 rfl rfl rfl <| lo T1_39 0 rfl <| lq (q_lenR Sl_39 rfl rfl ph0_0) rfl <| la rfl <| en <| blk <| WT.loop <| WT.conv (S' := St w0 Φ [(b_1, .cells #[.int .i64 p0.Kind, .string p0.Name, pv0_0, .int .i64 p0.N, .string p0.Undo] 41 (0, 0))] (ob (.slice none 0 0) :: [])) (fun w1 hw => hw.addNil) ?_
 have k1 := OSl.nil RS 9 1 Φ
 refine WT.mono (l' := [(1, .pointer (some ⟨b_1, 0, none⟩)), (3, (.slice none 0 0)), (7, pv0_0), (8, .int .i64 (p0.Args.length : Int)), (9, .int .i64 0)]) (S' := St w0 Φ [(b_1, .cells #[.int .i64 p0.Kind, .string p0.Name, pv0_0, .int .i64 p0.N, .string p0.Undo] 41 (0, 0))] [ob (.slice none 0 0)]) ⟨rfl, rfl, rfl, rfl, rfl, trivial⟩ (fun w1 hw => (hw.sel (js := [0]) rfl).selO (js := [0]) rfl) ?_
 refine loop_ind (σ := Hp × (List ByteArray) × Value × Int) (fun s => [(1, .pointer (some ⟨b_1, 0, none⟩)), (3, s.2.2.1), (7, pv0_0), (8, .int .i64 (p0.Args.length : Int)), (9, .int .i64 s.2.2.2)]) (fun s => St w0 s.1 [(b_1, .cells #[.int .i64 p0.Kind, .string p0.Name, pv0_0, .int .i64 p0.N, .string p0.Undo] 41 (0, 0))] [ob s.2.2.1]) (fun m s => m_i_callText_l1 N p0 m s.2.1 s.2.2.2 = some r ∧ (OSl RS 9 1 s.1 [] s.2.2.1 s.2.1) ∧ (RSl RTExpr 11 s.1 pG0_0 pv0_0 p0.Args)) (fun s hm => none_ne (show (none : Option (ByteArray)) = some r from hm.1)) (fun n1 ih1 s hm => ?_) N (Φ, ([] : List ByteArray), (.slice none 0 0), 0) ⟨h, k1, ph0_0⟩
 obtain ⟨Φ_1, s1, u1, s2⟩ := s
 obtain ⟨h, k2, ph0_0⟩ := hm
 dsimp only at h k2 ph0_0 ⊢
 unfold m_i_callText_l1 at h
 refine sr <| la rfl <| en <| sq ?_
 refine cdh rfl h (fun c1 h => ?_) (fun c1 h => ?_)
 ·refine WT.skip <| sq <| blk <| sr ?_
  obtain ⟨x1, hx1, h⟩ := bs h
  obtain ⟨cs1, F1, -, g1, hb1, hs1, r1⟩ := ph0_0.el (idx_some hx1).2.2
  obtain ⟨rfl, -⟩ := r1
  refine lq (q_indexAddr Sl_39 rfl rfl ph0_0 hx1) rfl <| lg11 0 Tn_34 g1 rfl rfl ?_
  refine ln (nz Zr_34) rfl (fun b_2 => ?_)
  refine soN 0 Sz_34 rfl ⟨rfl, rfl, rfl, rfl, rfl, rfl, rfl, rfl, rfl, rfl, rfl, trivial⟩ rfl ?_
  refine en <| rgn <| la rfl <| ld11 Tn_34 0 rfl ?_
  obtain ⟨x2, hx2, h⟩ := bs h
  refine lp (p_call Fun_9 rfl (fun w1 hw => m_i_ExprText_ok hw.fro N x1 (hT.fr (by subst hb0; exact hw.frB hΦ)) hx2)) rfl ?_
  have rc1 : RC RS 1 Φ_1 ([[]] : List (List Nat)) [.string x2] ([x2] : List ByteArray) := RC.cons (c := [.string x2]) (cells := []) ⟨rfl, rfl⟩ rfl (RC.nil _ _ _)
  refine le' (e_lit (vs := [(0, .string x2)]) (C := #[.string x2]) RS.lasts Sl_76 Zr_9 rfl rfl rfl rfl (fill_made MC_9_1 (fill_cons (C' := [.string x2]) rfl rfl rfl rfl rfl (fill_nil))) rfl rc1 rfl (by simpa using Kw.nil)) rfl (fun v1 Φ_2 D1 q1 => ?_)
  obtain ⟨fr1, h1⟩ := q1
  replace h1 : OSl RS 9 1 Φ_2 [] v1 ([x2] : List ByteArray) := by simpa using h1
  replace ph0_0 := ph0_0.frame RTExpr.lasts fr1 (Dj.empty _)
  replace k2 := k2.frame RS.lasts fr1 (Dj.empty _) (Dj.empty _)
  obtain ⟨x3, hx3, h⟩ := bs h
  refine le' (e_appF RS.lasts RS.one RS.flat Sl_76 Ei_9 rfl rfl rfl rfl rfl (js := [1]) (Rr := [ob v1]) rfl k2 h1.rsl hx3) rfl (fun v2 Φ_3 D2 q2 => ?_)
  obtain ⟨⟨ap1, fr2⟩, h2⟩ := q2
  replace ph0_0 := ph0_0.frame RTExpr.lasts fr2 (ap1.o pa0_0)
  refine la rfl <| en <| ib <| rgn <| la rfl <| la rfl <| en ?_
  exact lback (ih1 (Φ_3, x3, v2, IntKind.i64.wrap (s2 + 1)) ⟨h, h2, ph0_0⟩) ⟨rfl, rfl, rfl, rfl, rfl, trivial⟩ (fun w1 hw => (hw.sel (js := [0]) rfl).selO (js := [1]) rfl)
 refine xt rfl <| sq <| WT.draw mixed (by kernel_rfl) (fun _ h => h.drew) <| qq (q_fieldAddr Fld_41_1 rfl) rfl <| qq (q_load1 T1_9 rfl (fun w1 hw => hw.rgO (i := 0) rfl 1 1 [.string p0.Name] rfl)) rfl ?_
 obtain ⟨z1, hz1, h⟩ := bs h
 refine qq (q_cat rfl rfl hz1) rfl <| qq (q_move rfl) rfl ?_
 obtain ⟨x4, hx4, h⟩ := bs h
 refine qp (p_call Fun_54 rfl (fun w1 hw => m_strings_Join_ok hw.fro N s1 (⟨#[44, 32]⟩ : ByteArray) k2.rsl hx4)) rfl ?_
 obtain ⟨z2, hz2, h⟩ := bs h
 refine qq (q_cat rfl rfl hz2) rfl ?_
 obtain ⟨z3, hz3, h⟩ := bs h
 refine qq (q_cat rfl rfl hz3) rfl <| qq (q_assign rfl) rfl <| WQ.nil ?_
 refine WT.ret Tryd.func29 (resOk.one rfl) (fun w1 hw => ?_)
 subst hb0
 cases h
 exact post_of_St hw
theorem m_i_ActText_ok {Φ : Hp} {w : World} (hΦ : In Φ w) (N : Nat) (p0 : TAct) {pv0_0 : Value} {pG0_0 : List Nat} (hT : Tab Φ) (ph0_0 : RSl RTExpr 11 Φ pG0_0 pv0_0 p0.Args) {r : ByteArray} (h : m_i_ActText N p0 = some r) :
  Calls Tryd.prog 13 [.agg [.int .i64 p0.Kind, .string p0.Name, pv0_0, .int .i64 p0.N, .string p0.Undo].toArray].toArray w (Post (.string r) w) := by
 refine enter Tryd.func13 rfl Tryd.ntmps13 rfl (St.start0 hΦ) ?_
 generalize hb0 : (⟨w, [], Φ⟩ : Base) = w0
 unfold m_i_ActText at h
 refine sr ?_
 refine ln (nb rfl) rfl (fun b_1 => ?_)
 refine la rfl <| en <| sq <| sr <| ld5 Tn_41 0 rfl ?_
 obtain ⟨x1, hx1, h⟩ := bs h
 refine lp (p_call Fun_14 rfl (fun w1 hw => m_i_ActOk_ok hw.fro N p0 ph0_0 hx1)) rfl <| la rfl <| en ?_
 refine cdh rfl h (fun c1 h => ?_) (fun c1 h => ?_)
 ·refine sr <| la rfl <| en ?_
  refine WT.ret Tryd.func13 (resOk.one rfl) (fun w1 hw => ?_)
  subst hb0
  cases h
  exact post_of_St hw
 refine WT.skip <| sq <| sr <| lf Fld_41_0 rfl rfl rfl <| lo T1_3 0 rfl <| en <| blk <| sr <| la rfl <| la rfl <| en ?_
 refine cdh rfl h (fun c2 h => ?_) (fun c2 h => ?_)
 ·refine sr <| ld5 Tn_41 0 rfl ?_
  obtain ⟨x2, hx2, h⟩ := bs h
  refine lp (p_call Fun_29 rfl (fun w1 hw => m_i_callText_ok hw.fro N p0 (hT.fr (by subst hb0; exact hw.frB hΦ)) ph0_0 hx2)) rfl ?_
  obtain ⟨z1, hz1, h⟩ := bs h
  refine lq (q_cat rfl rfl hz1) rfl <| la rfl <| en ?_
  refine WT.ret Tryd.func13 (resOk.one rfl) (fun w1 hw => ?_)
  subst hb0
  cases h
  exact post_of_St hw
 refine sr <| la rfl <| la rfl <| en ?_
 refine cdh rfl h (fun c3 h => ?_) (fun c3 h => ?_)
 ·refine sr <| lf Fld_41_3 rfl rfl rfl <| lo T1_3 0 rfl ?_
  obtain ⟨x3, hx3, h⟩ := bs h
  refine lp (p_call Fun_30 rfl (fun w1 hw => m_strconv_Itoa_ok hw.fro N p0.N (hT.fr (by subst hb0; exact hw.frB hΦ)) hx3)) rfl ?_
  obtain ⟨z2, hz2, h⟩ := bs h
  refine lq (q_cat rfl rfl hz2) rfl <| la rfl <| en ?_
  refine WT.ret Tryd.func13 (resOk.one rfl) (fun w1 hw => ?_)
  subst hb0
  cases h
  exact post_of_St hw
 refine sr <| la rfl <| la rfl <| en ?_
 refine cdh rfl h (fun c4 h => ?_) (fun c4 h => ?_)
 ·refine sq <| sr <| lf Fld_41_4 rfl rfl rfl <| lo T1_9 0 rfl <| la rfl <| en ?_
  refine cdh rfl h (fun c5 h => ?_) (fun c5 h => ?_)
  ·refine sq <| WT.draw mixed (by kernel_rfl) (fun _ h => h.drew) <| qq (q_loadN Tn_41 rfl (fun w1 hw => hw.rgO (i := 0) rfl 0 5 [.int .i64 p0.Kind, .string p0.Name, pv0_0, .int .i64 p0.N, .string p0.Undo] rfl) rfl) rfl ?_
   obtain ⟨x4, hx4, h⟩ := bs h
   refine qp (p_call Fun_29 rfl (fun w1 hw => m_i_callText_ok hw.fro N p0 (hT.fr (by subst hb0; exact hw.frB hΦ)) ph0_0 hx4)) rfl ?_
   obtain ⟨z3, hz3, h⟩ := bs h
   refine qq (q_cat rfl rfl hz3) rfl ?_
   obtain ⟨z4, hz4, h⟩ := bs h
   refine qq (q_cat rfl rfl hz4) rfl <| qq (q_fieldAddr Fld_41_4 rfl) rfl <| qq (q_load1 T1_9 rfl (fun w1 hw => hw.rgO (i := 0) rfl 4 1 [.string p0.Undo] rfl)) rfl ?_
   obtain ⟨z5, hz5, h⟩ := bs h
   refine qq (q_cat rfl rfl hz5) rfl <| qq (q_assign rfl) rfl <| WQ.nil ?_
   refine WT.ret Tryd.func13 (resOk.one rfl) (fun w1 hw => ?_)
   subst hb0
   cases h
   exact post_of_St hw
  refine WT.skip <| sr <| ld5 Tn_41 0 rfl ?_
  obtain ⟨x5, hx5, h⟩ := bs h
  refine lp (p_call Fun_29 rfl (fun w1 hw => m_i_callText_ok hw.fro N p0 (hT.fr (by subst hb0; exact hw.frB hΦ)) ph0_0 hx5)) rfl ?_
  obtain ⟨z6, hz6, h⟩ := bs h
  refine lq (q_cat rfl rfl hz6) rfl <| la rfl <| en ?_
  refine WT.ret Tryd.func13 (resOk.one rfl) (fun w1 hw => ?_)
  subst hb0
  cases h
  exact post_of_St hw
 refine sr <| la rfl <| la rfl <| en ?_
 refine cdh rfl h (fun c6 h => ?_) (fun c6 h => ?_)
 ·refine sq <| WT.draw mixed (by kernel_rfl) (fun _ h => h.drew) <| qq (q_fieldAddr Fld_41_3 rfl) rfl <| qq (q_load1 T1_3 rfl (fun w1 hw => hw.rgO (i := 0) rfl 3 1 [.int .i64 p0.N] rfl)) rfl ?_
  obtain ⟨x6, hx6, h⟩ := bs h
  refine qp (p_call Fun_30 rfl (fun w1 hw => m_strconv_Itoa_ok hw.fro N p0.N (hT.fr (by subst hb0; exact hw.frB hΦ)) hx6)) rfl ?_
  obtain ⟨z7, hz7, h⟩ := bs h
  refine qq (q_cat rfl rfl hz7) rfl ?_
  obtain ⟨z8, hz8, h⟩ := bs h
  refine qq (q_cat rfl rfl hz8) rfl <| qq (q_loadN Tn_41 rfl (fun w1 hw => hw.rgO (i := 0) rfl 0 5 [.int .i64 p0.Kind, .string p0.Name, pv0_0, .int .i64 p0.N, .string p0.Undo] rfl) rfl) rfl ?_
  obtain ⟨x7, hx7, h⟩ := bs h
  refine qp (p_call Fun_29 rfl (fun w1 hw => m_i_callText_ok hw.fro N p0 (hT.fr (by subst hb0; exact hw.frB hΦ)) ph0_0 hx7)) rfl ?_
  obtain ⟨z9, hz9, h⟩ := bs h
  refine qq (q_cat rfl rfl hz9) rfl <| qq (q_assign rfl) rfl <| WQ.nil ?_
  refine WT.ret Tryd.func13 (resOk.one rfl) (fun w1 hw => ?_)
  subst hb0
  cases h
  exact post_of_St hw
 refine sr <| la rfl <| la rfl <| en ?_
 refine cdh rfl h (fun c7 h => ?_) (fun c7 h => ?_)
 ·refine sr <| la rfl <| en ?_
  refine WT.ret Tryd.func13 (resOk.one rfl) (fun w1 hw => ?_)
  subst hb0
  cases h
  exact post_of_St hw
 refine WT.skip <| ib <| sr <| la rfl <| en ?_
 refine WT.ret Tryd.func13 (resOk.one rfl) (fun w1 hw => ?_)
 subst hb0
 cases h
 exact post_of_St hw
theorem m_s_l1In_ok {Φ : Hp} {w : World} (hΦ : In Φ w) (N : Nat) (p0 : Int) (p1 : Int) (p2 : Int)   {r : Bool} (h : m_s_l1In N p0 p1 p2 = some r) :
  Calls Tryd.prog 36 [.int .i64 p0, .int .i64 p1, .int .i64 p2].toArray w (Post (.bool r) w) := by
 refine enter Tryd.func36 rfl Tryd.ntmps36 rfl (St.start0 hΦ) ?_
 unfold m_s_l1In at h
 refine sr <| la rfl <| en <| sr <| la rfl <| la rfl <| la rfl <| la rfl ?_
 obtain ⟨b1, hb_1, h⟩ := bs h
 refine WL.cutN 4 [(14, .bool b1), (6, .bool false)] ?_ (fun K => ?_)
 rotate_left
 ·refine spl 10 rfl hb_1 (fun c1 hb_1 => ?_) (fun c1 hb_1 => ?_)
  ·refine ly rfl rfl <| la rfl <| ly rfl rfl <| la rfl <| ly rfl rfl <| la rfl <| la rfl ?_
   cases hb_1
   exact kk K ⟨rfl, rfl, trivial⟩
  ·refine la rfl <| la rfl <| la rfl <| la rfl ?_
   cases hb_1
   exact kk K ⟨rfl, rfl, trivial⟩
 refine la rfl <| en ?_
 refine WT.ret Tryd.func36 (resOk.one rfl) (fun w1 hw => ?_)
 cases h
 exact post_of_St hw
theorem m_s_l1Letter_ok {Φ : Hp} {w : World} (hΦ : In Φ w) (N : Nat) (p0 : Int)   {r : Bool} (h : m_s_l1Letter N p0 = some r) :
  Calls Tryd.prog 57 [.int .u8 p0].toArray w (Post (.bool r) w) := by
 refine enter Tryd.func57 rfl Tryd.ntmps57 rfl (St.start0 hΦ) ?_
 unfold m_s_l1Letter at h
 refine sr <| la rfl <| en <| sr <| la rfl <| lq (q_convI Ik_5 Ik_3 rfl) rfl ?_
 obtain ⟨x1, hx1, h⟩ := bs h
 refine lp (p_call Fun_36 rfl (fun w1 hw => m_s_l1In_ok hw.fro N (IntKind.i64.wrap p0) 97 122 hx1)) rfl <| la rfl ?_
 obtain ⟨b1, hb_1, h⟩ := bs h
 refine WL.cutN 4 [(10, .bool b1), (0, .int .u8 p0), (2, .bool false)] ?_ (fun K => ?_)
 rotate_left
 ·refine spl 6 rfl hb_1 (fun c1 hb_1 => ?_) (fun c1 hb_1 => ?_)
  ·refine la rfl <| la rfl <| la rfl <| la rfl ?_
   cases hb_1
   exact kk K ⟨rfl, rfl, rfl, trivial⟩
  ·refine ly rfl rfl <| la rfl <| ly rfl rfl <| lq (q_convI Ik_5 Ik_3 rfl) rfl <| ly rfl rfl ?_
   obtain ⟨x2, hx2, hb_1⟩ := bs hb_1
   refine lp (p_call Fun_36 rfl (fun w1 hw => m_s_l1In_ok hw.fro N (IntKind.i64.wrap p0) 48 57 hx2)) rfl <| la rfl ?_
   cases hb_1
   exact kk K ⟨rfl, rfl, rfl, trivial⟩
 refine la rfl ?_
 obtain ⟨b2, hb_2, h⟩ := bs h
 refine WL.cutN 3 [(14, .bool b2), (2, .bool false)] ?_ (fun K => ?_)
 rotate_left
 ·refine spl 11 rfl hb_2 (fun c2 hb_2 => ?_) (fun c2 hb_2 => ?_)
  ·refine la rfl <| la rfl <| la rfl ?_
   cases hb_2
   exact kk K ⟨rfl, rfl, trivial⟩
  ·refine ly rfl rfl <| la rfl <| ly rfl rfl <| la rfl <| la rfl ?_
   cases hb_2
   exact kk K ⟨rfl, rfl, trivial⟩
 refine la rfl <| en ?_
 refine WT.ret Tryd.func57 (resOk.one rfl) (fun w1 hw => ?_)
 cases h
 exact post_of_St hw
theorem m_s_NameOk_ok {Φ : Hp} {w : World} (hΦ : In Φ w) (N : Nat) (p0 : ByteArray)   {r : Bool} (h : m_s_NameOk N p0 = some r) :
  Calls Tryd.prog 34 [.string p0].toArray w (Post (.bool r) w) := by
 refine enter Tryd.func34 rfl Tryd.ntmps34 rfl (St.start0 hΦ) ?_
 generalize hb0 : (⟨w, [], Φ⟩ : Base) = w0
 unfold m_s_NameOk at h
 refine sr <| la rfl <| en <| sq <| sr <| la rfl <| en <| blk ?_
 refine loop_in (σ := Int) (fun s => [(0, .string p0), (3, .int .i64 s)]) (fun s => St w0 Φ [] []) (fun m s => m_s_NameOk_l1 N p0 m s = some r) (0) N h ⟨rfl, rfl, trivial⟩ (fun w1 hw => (hw.sel (js := []) rfl).selO (js := []) rfl) (fun s hm => none_ne hm) (fun n1 ih1 s hm => ?_)
 revert hm; revert s; intro s1 hm
 have h : m_s_NameOk_l1 N p0 (n1 + 1) s1 = some r := hm
 show WT _ _ [(0, .string p0), (3, .int .i64 s1)] (St w0 Φ [] [])
 unfold m_s_NameOk_l1 at h
 refine sq <| sr <| la rfl <| la rfl <| lq (q_lenS Str_9 rfl rfl) rfl <| la rfl <| en ?_
 refine cdh rfl h (fun c1 h => ?_) (fun c1 h => ?_)
 ·refine WT.skip <| sq <| blk <| sr <| la rfl <| la rfl ?_
  obtain ⟨y1, hy1, h⟩ := bs h
  refine lq (q_indexS Str_9 rfl rfl hy1) rfl ?_
  obtain ⟨x1, hx1, h⟩ := bs h
  refine lp (p_call Fun_57 rfl (fun w1 hw => m_s_l1Letter_ok hw.fro N (y1.toNat : Int) hx1)) rfl <| la rfl <| la rfl ?_
  obtain ⟨b1, hb_1, h⟩ := bs h
  refine WL.cutN 11 [(26, .bool b1), (0, .string p0), (3, .int .i64 s1)] ?_ (fun K => ?_)
  rotate_left
  ·refine spl 15 rfl hb_1 (fun c2 hb_1 => ?_) (fun c2 hb_1 => ?_)
   ·refine la rfl <| la rfl <| la rfl <| WL.nox rfl rfl rfl rfl <| WL.nox rfl rfl rfl rfl <| WL.nox rfl rfl rfl rfl <| WL.nox rfl rfl rfl rfl <| WL.nox rfl rfl rfl rfl <| WL.nox rfl rfl rfl rfl <| la rfl <| la rfl ?_
    cases hb_1
    exact kk K ⟨rfl, rfl, rfl, trivial⟩
   ·refine ly rfl rfl <| la rfl <| ly rfl rfl <| la rfl <| ly rfl rfl <| la rfl ?_
    obtain ⟨b2, hb_2, hb_1⟩ := bs hb_1
    refine WL.cutN 7 [(25, .bool b2), (0, .string p0), (3, .int .i64 s1), (15, .bool false)] ?_ (fun K => ?_)
    rotate_left
    ·refine spl 18 rfl hb_2 (fun c3 hb_2 => ?_) (fun c3 hb_2 => ?_)
     ·refine ly rfl rfl <| la rfl <| ly rfl rfl <| la rfl <| ly rfl rfl ?_
      obtain ⟨y2, hy2, hb_2⟩ := bs hb_2
      refine lq (q_indexS Str_9 rfl rfl hy2) rfl <| ly rfl rfl <| lq (q_convI Ik_5 Ik_3 rfl) rfl <| ly rfl rfl ?_
      obtain ⟨x2, hx2, hb_2⟩ := bs hb_2
      refine lp (p_call Fun_36 rfl (fun w1 hw => m_s_l1In_ok hw.fro N (IntKind.i64.wrap (y2.toNat : Int)) 97 122 hx2)) rfl <| ly rfl rfl <| la rfl <| ly rfl rfl <| la rfl ?_
      cases hb_2
      exact kk K ⟨rfl, rfl, rfl, rfl, trivial⟩
     ·refine la rfl <| la rfl <| la rfl <| la rfl <| la rfl <| la rfl <| ly rfl rfl <| la rfl ?_
      cases hb_2
      exact kk K ⟨rfl, rfl, rfl, rfl, trivial⟩
    refine la rfl ?_
    cases hb_1
    exact kk K ⟨rfl, rfl, rfl, trivial⟩
  refine en ?_
  refine cdh rfl h (fun c4 h => ?_) (fun c4 h => ?_)
  ·refine sr <| la rfl <| en ?_
   refine WT.ret Tryd.func34 (resOk.one rfl) (fun w1 hw => ?_)
   subst hb0
   cases h
   exact post_of_St hw
  refine WT.skip <| ib <| rgn <| la rfl <| la rfl <| la rfl <| en ?_
  exact lback (ih1 (IntKind.i64.wrap (s1 + 1)) h) ⟨rfl, rfl, trivial⟩ (fun w1 hw => (hw.sel (js := []) rfl).selO (js := []) rfl)
 refine xt rfl <| sr <| la rfl <| lq (q_lenS Str_9 rfl rfl) rfl ?_
 obtain ⟨x3, hx3, h⟩ := bs h
 refine lp (p_call Fun_36 rfl (fun w1 hw => m_s_l1In_ok hw.fro N (p0.size : Int) 1 12 hx3)) rfl <| la rfl <| en ?_
 refine WT.ret Tryd.func34 (resOk.one rfl) (fun w1 hw => ?_)
 subst hb0
 cases h
 exact post_of_St hw
theorem m_s_l5Large_ok {Φ : Hp} {w : World} (hΦ : In Φ w) (N : Nat) (p0 : Int)   {r : Bool} (h : m_s_l5Large N p0 = some r) :
  Calls Tryd.prog 85 [.int .u8 p0].toArray w (Post (.bool r) w) := by
 refine enter Tryd.func85 rfl Tryd.ntmps85 rfl (St.start0 hΦ) ?_
 unfold m_s_l5Large at h
 refine sr <| la rfl <| en <| sr <| la rfl <| lq (q_convI Ik_5 Ik_3 rfl) rfl ?_
 obtain ⟨x1, hx1, h⟩ := bs h
 refine lp (p_call Fun_36 rfl (fun w1 hw => m_s_l1In_ok hw.fro N (IntKind.i64.wrap p0) 65 90 hx1)) rfl <| la rfl <| en ?_
 refine WT.ret Tryd.func85 (resOk.one rfl) (fun w1 hw => ?_)
 cases h
 exact post_of_St hw
theorem m_s_l5VarOk_ok {Φ : Hp} {w : World} (hΦ : In Φ w) (N : Nat) (p0 : ByteArray)   {r : Bool} (h : m_s_l5VarOk N p0 = some r) :
  Calls Tryd.prog 74 [.string p0].toArray w (Post (.bool r) w) := by
 refine enter Tryd.func74 rfl Tryd.ntmps74 rfl (St.start0 hΦ) ?_
 generalize hb0 : (⟨w, [], Φ⟩ : Base) = w0
 unfold m_s_l5VarOk at h
 refine sr <| la rfl <| en <| sq <| sr <| la rfl <| en <| blk ?_
 refine loop_in (σ := Int) (fun s => [(0, .string p0), (3, .int .i64 s)]) (fun s => St w0 Φ [] []) (fun m s => m_s_l5VarOk_l1 N p0 m s = some r) (0) N h ⟨rfl, rfl, trivial⟩ (fun w1 hw => (hw.sel (js := []) rfl).selO (js := []) rfl) (fun s hm => none_ne hm) (fun n1 ih1 s hm => ?_)
 revert hm; revert s; intro s1 hm
 have h : m_s_l5VarOk_l1 N p0 (n1 + 1) s1 = some r := hm
 show WT _ _ [(0, .string p0), (3, .int .i64 s1)] (St w0 Φ [] [])
 unfold m_s_l5VarOk_l1 at h
 refine sq <| sr <| la rfl <| la rfl <| lq (q_lenS Str_9 rfl rfl) rfl <| la rfl <| en ?_
 refine cdh rfl h (fun c1 h => ?_) (fun c1 h => ?_)
 ·refine WT.skip <| sq <| blk <| sr <| la rfl <| la rfl ?_
  obtain ⟨y1, hy1, h⟩ := bs h
  refine lq (q_indexS Str_9 rfl rfl hy1) rfl ?_
  obtain ⟨x1, hx1, h⟩ := bs h
  refine lp (p_call Fun_85 rfl (fun w1 hw => m_s_l5Large_ok hw.fro N (y1.toNat : Int) hx1)) rfl <| la rfl <| la rfl ?_
  obtain ⟨b1, hb_1, h⟩ := bs h
  refine WL.cutN 10 [(25, .bool b1), (0, .string p0), (3, .int .i64 s1)] ?_ (fun K => ?_)
  rotate_left
  ·refine spl 15 rfl hb_1 (fun c2 hb_1 => ?_) (fun c2 hb_1 => ?_)
   ·refine ly rfl rfl <| la rfl <| ly rfl rfl <| la rfl <| ly rfl rfl <| la rfl ?_
    obtain ⟨b2, hb_2, hb_1⟩ := bs hb_1
    refine WL.cutN 6 [(24, .bool b2), (0, .string p0), (3, .int .i64 s1), (15, .bool true)] ?_ (fun K => ?_)
    rotate_left
    ·refine spl 18 rfl hb_2 (fun c3 hb_2 => ?_) (fun c3 hb_2 => ?_)
     ·refine la rfl <| la rfl <| la rfl <| la rfl <| la rfl <| ly rfl rfl <| la rfl ?_
      cases hb_2
      exact kk K ⟨rfl, rfl, rfl, rfl, trivial⟩
     ·refine ly rfl rfl <| la rfl <| ly rfl rfl <| la rfl <| ly rfl rfl ?_
      obtain ⟨y2, hy2, hb_2⟩ := bs hb_2
      refine lq (q_indexS Str_9 rfl rfl hy2) rfl <| ly rfl rfl ?_
      obtain ⟨x2, hx2, hb_2⟩ := bs hb_2
      refine lp (p_call Fun_57 rfl (fun w1 hw => m_s_l1Letter_ok hw.fro N (y2.toNat : Int) hx2)) rfl <| ly rfl rfl <| la rfl <| ly rfl rfl <| la rfl ?_
      cases hb_2
      exact kk K ⟨rfl, rfl, rfl, rfl, trivial⟩
    refine la rfl ?_
    cases hb_1
    exact kk K ⟨rfl, rfl, rfl, trivial⟩
   ·refine la rfl <| la rfl <| la rfl <| WL.nox rfl rfl rfl rfl <| WL.nox rfl rfl rfl rfl <| WL.nox rfl rfl rfl rfl <| WL.nox rfl rfl rfl rfl <| WL.nox rfl rfl rfl rfl <| la rfl <| la rfl ?_
    cases hb_1
    exact kk K ⟨rfl, rfl, rfl, trivial⟩
  refine en ?_
  refine cdh rfl h (fun c4 h => ?_) (fun c4 h => ?_)
  ·refine sr <| la rfl <| en ?_
   refine WT.ret Tryd.func74 (resOk.one rfl) (fun w1 hw => ?_)
   subst hb0
   cases h
   exact post_of_St hw
  refine WT.skip <| ib <| rgn <| la rfl <| la rfl <| la rfl <| en ?_
  exact lback (ih1 (IntKind.i64.wrap (s1 + 1)) h) ⟨rfl, rfl, trivial⟩ (fun w1 hw => (hw.sel (js := []) rfl).selO (js := []) rfl)
 refine xt rfl <| sr <| la rfl <| lq (q_lenS Str_9 rfl rfl) rfl ?_
 obtain ⟨x3, hx3, h⟩ := bs h
 refine lp (p_call Fun_36 rfl (fun w1 hw => m_s_l1In_ok hw.fro N (p0.size : Int) 1 12 hx3)) rfl <| la rfl <| en ?_
 refine WT.ret Tryd.func74 (resOk.one rfl) (fun w1 hw => ?_)
 subst hb0
 cases h
 exact post_of_St hw
theorem m_s_l2Plain_ok {Φ : Hp} {w : World} (hΦ : In Φ w) (N : Nat) (p0 : ByteArray)   {r : Bool} (h : m_s_l2Plain N p0 = some r) :
  Calls Tryd.prog 86 [.string p0].toArray w (Post (.bool r) w) := by
 refine enter Tryd.func86 rfl Tryd.ntmps86 rfl (St.start0 hΦ) ?_
 generalize hb0 : (⟨w, [], Φ⟩ : Base) = w0
 unfold m_s_l2Plain at h
 refine sr <| la rfl <| en <| sq <| sr <| la rfl <| en <| blk ?_
 refine loop_in (σ := Int) (fun s => [(0, .string p0), (3, .int .i64 s)]) (fun s => St w0 Φ [] []) (fun m s => m_s_l2Plain_l1 N p0 m s = some r) (0) N h ⟨rfl, rfl, trivial⟩ (fun w1 hw => (hw.sel (js := []) rfl).selO (js := []) rfl) (fun s hm => none_ne hm) (fun n1 ih1 s hm => ?_)
 revert hm; revert s; intro s1 hm
 have h : m_s_l2Plain_l1 N p0 (n1 + 1) s1 = some r := hm
 show WT _ _ [(0, .string p0), (3, .int .i64 s1)] (St w0 Φ [] [])
 unfold m_s_l2Plain_l1 at h
 refine sq <| sr <| la rfl <| la rfl <| lq (q_lenS Str_9 rfl rfl) rfl <| la rfl <| en ?_
 refine cdh rfl h (fun c1 h => ?_) (fun c1 h => ?_)
 ·refine WT.skip <| sq <| blk <| sr <| la rfl <| la rfl ?_
  obtain ⟨y1, hy1, h⟩ := bs h
  refine lq (q_indexS Str_9 rfl rfl hy1) rfl ?_
  obtain ⟨x1, hx1, h⟩ := bs h
  refine lp (p_call Fun_57 rfl (fun w1 hw => m_s_l1Letter_ok hw.fro N (y1.toNat : Int) hx1)) rfl <| la rfl <| en ?_
  refine cdh rfl h (fun c2 h => ?_) (fun c2 h => ?_)
  ·refine sr <| la rfl <| en ?_
   refine WT.ret Tryd.func86 (resOk.one rfl) (fun w1 hw => ?_)
   subst hb0
   cases h
   exact post_of_St hw
  refine WT.skip <| ib <| rgn <| la rfl <| la rfl <| la rfl <| en ?_
  exact lback (ih1 (IntKind.i64.wrap (s1 + 1)) h) ⟨rfl, rfl, trivial⟩ (fun w1 hw => (hw.sel (js := []) rfl).selO (js := []) rfl)
 refine xt rfl <| sr <| la rfl <| lq (q_lenS Str_9 rfl rfl) rfl <| la rfl <| la rfl <| en ?_
 refine WT.ret Tryd.func86 (resOk.one rfl) (fun w1 hw => ?_)
 subst hb0
 cases h
 exact post_of_St hw
theorem m_s_ValOk_ok {Φ : Hp} {w : World} (hΦ : In Φ w) (N : Nat) (p0 : TVal)   {r : Bool} (h : m_s_ValOk N p0 = some r) :
  Calls Tryd.prog 75 [.agg [.int .i64 p0.K, .int .i64 p0.N, .string p0.S].toArray].toArray w (Post (.bool r) w) := by
 refine enter Tryd.func75 rfl Tryd.ntmps75 rfl (St.start0 hΦ) ?_
 unfold m_s_ValOk at h
 refine sr ?_
 refine ln (nb rfl) rfl (fun b_1 => ?_)
 refine la rfl <| en <| sq <| sr <| lf Fld_30_0 rfl rfl rfl <| lo T1_3 0 rfl <| en <| blk <| sr <| la rfl <| la rfl <| en ?_
 refine cdh rfl h (fun c1 h => ?_) (fun c1 h => ?_)
 ·refine sr <| lf Fld_30_1 rfl rfl rfl <| lo T1_3 0 rfl ?_
  obtain ⟨x1, hx1, h⟩ := bs h
  refine lp (p_call Fun_36 rfl (fun w1 hw => m_s_l1In_ok hw.fro N p0.N (-1000000000) 1000000000 hx1)) rfl <| la rfl ?_
  obtain ⟨b1, hb_1, h⟩ := bs h
  refine WL.cutN 4 [(14, .bool b1), (2, .bool false)] ?_ (fun K => ?_)
  rotate_left
  ·refine spl 10 rfl hb_1 (fun c2 hb_1 => ?_) (fun c2 hb_1 => ?_)
   ·refine ly rfl rfl <| lf Fld_30_2 rfl rfl rfl <| ly rfl rfl <| lo T1_9 0 rfl <| ly rfl rfl <| la rfl <| la rfl ?_
    cases hb_1
    exact kk K ⟨rfl, rfl, trivial⟩
   ·refine la rfl <| la rfl <| la rfl <| la rfl ?_
    cases hb_1
    exact kk K ⟨rfl, rfl, trivial⟩
  refine la rfl <| en ?_
  refine WT.ret Tryd.func75 (resOk.one rfl) (fun w1 hw => ?_)
  cases h
  exact post_of_St hw
 refine sr <| la rfl <| la rfl <| en ?_
 refine cdh rfl h (fun c3 h => ?_) (fun c3 h => ?_)
 ·refine sr <| lf Fld_30_2 rfl rfl rfl <| lo T1_9 0 rfl ?_
  obtain ⟨x2, hx2, h⟩ := bs h
  refine lp (p_call Fun_86 rfl (fun w1 hw => m_s_l2Plain_ok hw.fro N p0.S hx2)) rfl <| la rfl ?_
  obtain ⟨b2, hb_2, h⟩ := bs h
  refine WL.cutN 4 [(24, .bool b2), (2, .bool false)] ?_ (fun K => ?_)
  rotate_left
  ·refine spl 20 rfl hb_2 (fun c4 hb_2 => ?_) (fun c4 hb_2 => ?_)
   ·refine ly rfl rfl <| lf Fld_30_1 rfl rfl rfl <| ly rfl rfl <| lo T1_3 0 rfl <| ly rfl rfl <| la rfl <| la rfl ?_
    cases hb_2
    exact kk K ⟨rfl, rfl, trivial⟩
   ·refine la rfl <| la rfl <| la rfl <| la rfl ?_
    cases hb_2
    exact kk K ⟨rfl, rfl, trivial⟩
  refine la rfl <| en ?_
  refine WT.ret Tryd.func75 (resOk.one rfl) (fun w1 hw => ?_)
  cases h
  exact post_of_St hw
 refine WT.skip <| ib <| sr <| la rfl <| en ?_
 refine WT.ret Tryd.func75 (resOk.one rfl) (fun w1 hw => ?_)
 cases h
 exact post_of_St hw
theorem m_s_ArgOk_ok {Φ : Hp} {w : World} (hΦ : In Φ w) (N : Nat) (p0 : TArg)   {r : Bool} (h : m_s_ArgOk N p0 = some r) :
  Calls Tryd.prog 58 [.agg [.int .i64 p0.K, .string p0.S, .int .i64 p0.V.K, .int .i64 p0.V.N, .string p0.V.S].toArray].toArray w (Post (.bool r) w) := by
 refine enter Tryd.func58 rfl Tryd.ntmps58 rfl (St.start0 hΦ) ?_
 unfold m_s_ArgOk at h
 refine sr ?_
 refine ln (nb rfl) rfl (fun b_1 => ?_)
 refine la rfl <| en <| sr <| lf Fld_32_2 rfl rfl rfl <| ld3 Tn_30 0 rfl <| lq (q_build (vs := []) (C := #[.int .i64 0, .int .i64 0, .string (⟨#[]⟩ : ByteArray)]) Pl_30 Zr_30 rfl (fill_nil)) rfl <| lq (q_eqA EqT_30 rfl rfl rfl (r := eqT_TVal p0.V (⟨0, 0, (⟨#[]⟩ : ByteArray)⟩ : TVal)) rfl) rfl <| la rfl <| en <| sq <| sr <| lf Fld_32_0 rfl rfl rfl <| lo T1_3 0 rfl <| en <| blk <| sr <| la rfl <| la rfl <| en ?_
 refine cdh rfl h (fun c1 h => ?_) (fun c1 h => ?_)
 ·refine sr <| lf Fld_32_1 rfl rfl rfl <| lo T1_9 0 rfl ?_
  obtain ⟨x1, hx1, h⟩ := bs h
  refine lp (p_call Fun_74 rfl (fun w1 hw => m_s_l5VarOk_ok hw.fro N p0.S hx1)) rfl <| la rfl ?_
  obtain ⟨b1, hb_1, h⟩ := bs h
  refine WL.cutN 2 [(17, .bool b1), (2, .bool false)] ?_ (fun K => ?_)
  rotate_left
  ·refine spl 15 rfl hb_1 (fun c2 hb_1 => ?_) (fun c2 hb_1 => ?_)
   ·refine ly rfl rfl <| la rfl <| la rfl ?_
    cases hb_1
    exact kk K ⟨rfl, rfl, trivial⟩
   ·refine la rfl <| la rfl ?_
    cases hb_1
    exact kk K ⟨rfl, rfl, trivial⟩
  refine la rfl <| en ?_
  refine WT.ret Tryd.func58 (resOk.one rfl) (fun w1 hw => ?_)
  cases h
  exact post_of_St hw
 refine sr <| la rfl <| la rfl <| en ?_
 refine cdh rfl h (fun c3 h => ?_) (fun c3 h => ?_)
 ·refine sr <| lf Fld_32_2 rfl rfl rfl <| ld3 Tn_30 0 rfl ?_
  obtain ⟨x2, hx2, h⟩ := bs h
  refine lp (p_call Fun_75 rfl (fun w1 hw => m_s_ValOk_ok hw.fro N p0.V hx2)) rfl <| la rfl ?_
  obtain ⟨b2, hb_2, h⟩ := bs h
  refine WL.cutN 4 [(27, .bool b2), (2, .bool false)] ?_ (fun K => ?_)
  rotate_left
  ·refine spl 23 rfl hb_2 (fun c4 hb_2 => ?_) (fun c4 hb_2 => ?_)
   ·refine ly rfl rfl <| lf Fld_32_1 rfl rfl rfl <| ly rfl rfl <| lo T1_9 0 rfl <| ly rfl rfl <| la rfl <| la rfl ?_
    cases hb_2
    exact kk K ⟨rfl, rfl, trivial⟩
   ·refine la rfl <| la rfl <| la rfl <| la rfl ?_
    cases hb_2
    exact kk K ⟨rfl, rfl, trivial⟩
  refine la rfl <| en ?_
  refine WT.ret Tryd.func58 (resOk.one rfl) (fun w1 hw => ?_)
  cases h
  exact post_of_St hw
 refine sr <| la rfl <| la rfl <| en ?_
 refine cdh rfl h (fun c5 h => ?_) (fun c5 h => ?_)
 ·refine sr <| lf Fld_32_1 rfl rfl rfl <| lo T1_9 0 rfl <| la rfl <| la rfl ?_
  obtain ⟨b3, hb_3, h⟩ := bs h
  refine WL.cutN 2 [(35, .bool b3), (2, .bool false)] ?_ (fun K => ?_)
  rotate_left
  ·refine spl 33 rfl hb_3 (fun c6 hb_3 => ?_) (fun c6 hb_3 => ?_)
   ·refine ly rfl rfl <| la rfl <| la rfl ?_
    cases hb_3
    exact kk K ⟨rfl, rfl, trivial⟩
   ·refine la rfl <| la rfl ?_
    cases hb_3
    exact kk K ⟨rfl, rfl, trivial⟩
  refine la rfl <| en ?_
  refine WT.ret Tryd.func58 (resOk.one rfl) (fun w1 hw => ?_)
  cases h
  exact post_of_St hw
 refine WT.skip <| ib <| sr <| la rfl <| en ?_
 refine WT.ret Tryd.func58 (resOk.one rfl) (fun w1 hw => ?_)
 cases h
 exact post_of_St hw
theorem m_s_l8Given_ok {Φ : Hp} {w : World} (hΦ : In Φ w) (N : Nat) (p0 : TArg)   {r : Bool} (h : m_s_l8Given N p0 = some r) :
  Calls Tryd.prog 39 [.agg [.int .i64 p0.K, .string p0.S, .int .i64 p0.V.K, .int .i64 p0.V.N, .string p0.V.S].toArray].toArray w (Post (.bool r) w) := by
 refine enter Tryd.func39 rfl Tryd.ntmps39 rfl (St.start0 hΦ) ?_
 unfold m_s_l8Given at h
 refine sr ?_
 refine ln (nb rfl) rfl (fun b_1 => ?_)
 refine la rfl <| en <| sr <| ld5 Tn_32 0 rfl ?_
 obtain ⟨x1, hx1, h⟩ := bs h
 refine lp (p_call Fun_58 rfl (fun w1 hw => m_s_ArgOk_ok hw.fro N p0 hx1)) rfl <| la rfl ?_
 obtain ⟨b1, hb_1, h⟩ := bs h
 refine WL.cutN 4 [(9, .bool b1), (2, .bool false)] ?_ (fun K => ?_)
 rotate_left
 ·refine spl 5 rfl hb_1 (fun c1 hb_1 => ?_) (fun c1 hb_1 => ?_)
  ·refine ly rfl rfl <| lf Fld_32_0 rfl rfl rfl <| ly rfl rfl <| lo T1_3 0 rfl <| ly rfl rfl <| la rfl <| la rfl ?_
   cases hb_1
   exact kk K ⟨rfl, rfl, trivial⟩
  ·refine la rfl <| la rfl <| la rfl <| la rfl ?_
   cases hb_1
   exact kk K ⟨rfl, rfl, trivial⟩
 refine la rfl <| en ?_
 refine WT.ret Tryd.func39 (resOk.one rfl) (fun w1 hw => ?_)
 cases h
 exact post_of_St hw
theorem m_s_ExprOk_ok {Φ : Hp} {w : World} (hΦ : In Φ w) (N : Nat) (p0 : TExpr)   {r : Bool} (h : m_s_ExprOk N p0 = some r) :
  Calls Tryd.prog 17 [.agg [.string p0.Op, .int .i64 p0.L.K, .string p0.L.S, .int .i64 p0.L.V.K, .int .i64 p0.L.V.N, .string p0.L.V.S, .int .i64 p0.R.K, .string p0.R.S, .int .i64 p0.R.V.K, .int .i64 p0.R.V.N, .string p0.R.V.S].toArray].toArray w (Post (.bool r) w) := by
 refine enter Tryd.func17 rfl Tryd.ntmps17 rfl (St.start0 hΦ) ?_
 generalize hb0 : (⟨w, [], Φ⟩ : Base) = w0
 unfold m_s_ExprOk at h
 refine sr ?_
 refine ln (nb rfl) rfl (fun b_1 => ?_)
 refine la rfl <| en <| sq <| sr <| lf Fld_34_0 rfl rfl rfl <| lo T1_9 0 rfl <| en <| blk <| sr <| la rfl <| la rfl <| en ?_
 refine cdh rfl h (fun c1 h => ?_) (fun c1 h => ?_)
 ·refine sr <| lf Fld_34_1 rfl rfl rfl <| ld5 Tn_32 0 rfl ?_
  obtain ⟨x1, hx1, h⟩ := bs h
  refine lp (p_call Fun_39 rfl (fun w1 hw => m_s_l8Given_ok hw.fro N p0.L hx1)) rfl <| la rfl ?_
  obtain ⟨b1, hb_1, h⟩ := bs h
  refine WL.cutN 5 [(15, .bool b1), (2, .bool false)] ?_ (fun K => ?_)
  rotate_left
  ·refine spl 10 rfl hb_1 (fun c2 hb_1 => ?_) (fun c2 hb_1 => ?_)
   ·refine ly rfl rfl <| lf Fld_34_2 rfl rfl rfl <| ly rfl rfl <| ld5 Tn_32 0 rfl <| ly rfl rfl <| lq (q_build (vs := []) (C := #[.int .i64 0, .string (⟨#[]⟩ : ByteArray), .int .i64 0, .int .i64 0, .string (⟨#[]⟩ : ByteArray)]) Pl_32 Zr_32 rfl (fill_nil)) rfl <| ly rfl rfl <| lq (q_eqA EqT_32 rfl rfl rfl (r := eqT_TArg p0.R (⟨0, (⟨#[]⟩ : ByteArray), (⟨0, 0, (⟨#[]⟩ : ByteArray)⟩ : TVal)⟩ : TArg)) rfl) rfl <| la rfl ?_
    cases hb_1
    exact kk K ⟨rfl, rfl, trivial⟩
   ·refine la rfl <| la rfl <| la rfl <| la rfl <| la rfl ?_
    cases hb_1
    exact kk K ⟨rfl, rfl, trivial⟩
  refine la rfl <| en ?_
  refine WT.ret Tryd.func17 (resOk.one rfl) (fun w1 hw => ?_)
  subst hb0
  cases h
  exact post_of_St hw
 refine sq <| sr <| la rfl <| la rfl <| en ?_
 refine cut (σ := Bool) (fun s => [(1, .pointer (some ⟨b_1, 0, none⟩)), (16, .bool s)]) (fun s => St w0 Φ [(b_1, .cells #[.string p0.Op, .int .i64 p0.L.K, .string p0.L.S, .int .i64 p0.L.V.K, .int .i64 p0.L.V.N, .string p0.L.V.S, .int .i64 p0.R.K, .string p0.R.S, .int .i64 p0.R.V.K, .int .i64 p0.R.V.N, .string p0.R.V.S] 34 (0, 0))] []) (fun s => m_s_ExprOk_j1 N p0 s = some r) (fun s hm => ?_) (fun K => ?_)
 ·clear h
  revert hm; revert s; intro s1 hm
  have h : m_s_ExprOk_j1 N p0 s1 = some r := hm
  show WT _ _ [(1, .pointer (some ⟨b_1, 0, none⟩)), (16, .bool s1)] (St w0 Φ [(b_1, .cells #[.string p0.Op, .int .i64 p0.L.K, .string p0.L.S, .int .i64 p0.L.V.K, .int .i64 p0.L.V.N, .string p0.L.V.S, .int .i64 p0.R.K, .string p0.R.S, .int .i64 p0.R.V.K, .int .i64 p0.R.V.N, .string p0.R.V.S] 34 (0, 0))] [])
  unfold m_s_ExprOk_j1 at h
  refine cdh rfl h (fun c3 h => ?_) (fun c3 h => ?_)
  ·refine sr <| lf Fld_34_1 rfl rfl rfl <| ld5 Tn_32 0 rfl ?_
   obtain ⟨x2, hx2, h⟩ := bs h
   refine lp (p_call Fun_39 rfl (fun w1 hw => m_s_l8Given_ok hw.fro N p0.L hx2)) rfl <| la rfl ?_
   obtain ⟨b2, hb_2, h⟩ := bs h
   refine WL.cutN 4 [(26, .bool b2)] ?_ (fun K => ?_)
   rotate_left
   ·refine spl 22 rfl hb_2 (fun c4 hb_2 => ?_) (fun c4 hb_2 => ?_)
    ·refine ly rfl rfl <| lf Fld_34_2 rfl rfl rfl <| ly rfl rfl <| ld5 Tn_32 0 rfl <| ly rfl rfl ?_
     obtain ⟨x3, hx3, hb_2⟩ := bs hb_2
     refine lp (p_call Fun_39 rfl (fun w1 hw => m_s_l8Given_ok hw.fro N p0.R hx3)) rfl <| la rfl ?_
     cases hb_2
     exact kk K ⟨rfl, trivial⟩
    ·refine la rfl <| la rfl <| la rfl <| la rfl ?_
     cases hb_2
     exact kk K ⟨rfl, trivial⟩
   refine la rfl <| en ?_
   refine WT.ret Tryd.func17 (resOk.one rfl) (fun w1 hw => ?_)
   subst hb0
   cases h
   exact post_of_St hw
  refine WT.skip <| ib <| sr <| la rfl <| en ?_
  refine WT.ret Tryd.func17 (resOk.one rfl) (fun w1 hw => ?_)
  subst hb0
  cases h
  exact post_of_St hw
 refine cdh rfl h (fun c5 h => ?_) (fun c5 h => ?_)
 ·refine WT.skip ?_
  exact wto (K (seq p0.Op (⟨#[43]⟩ : ByteArray)) h) ⟨rfl, rfl, trivial⟩ (fun w1 hw => (hw.sel (js := []) rfl).selO (js := [0]) rfl)
 refine rgn <| la rfl <| la rfl <| en ?_
 exact wto (K (seq p0.Op (⟨#[45]⟩ : ByteArray)) h) ⟨rfl, rfl, trivial⟩ (fun w1 hw => (hw.sel (js := []) rfl).selO (js := [0]) rfl)
theorem m_s_l8Args_ok {Φ : Hp} {w : World} (hΦ : In Φ w) (N : Nat) (p0 : (List TExpr)) {pv0 : Value} {pG0 : List Nat} (ph0 : RSl RTExpr 11 Φ pG0 pv0 p0) {r : Bool} (h : m_s_l8Args N p0 = some r) :
  Calls Tryd.prog 35 [pv0].toArray w (Post (.bool r) w) := by
 refine enter Tryd.func35 rfl Tryd.ntmps35 rfl (St.start0 hΦ) ?_
 generalize hb0 : (⟨w, [], Φ⟩ : Base) = w0
 unfold m_s_l8Args at h
 refine sr <| la rfl <| en <| sq <| sr <| la rfl <| en <| blk ?_
 refine loop_in (σ := Int) (fun s => [(0, pv0), (3, .int .i64 s)]) (fun s => St w0 Φ [] []) (fun m s => m_s_l8Args_l1 N p0 m s = some r) (0) N h ⟨rfl, rfl, trivial⟩ (fun w1 hw => (hw.sel (js := []) rfl).selO (js := []) rfl) (fun s hm => none_ne hm) (fun n1 ih1 s hm => ?_)
 revert hm; revert s; intro s1 hm
 have h : m_s_l8Args_l1 N p0 (n1 + 1) s1 = some r := hm
 show WT _ _ [(0, pv0), (3, .int .i64 s1)] (St w0 Φ [] [])
 unfold m_s_l8Args_l1 at h
 refine sq <| sr <| la rfl <| la rfl <| lq (q_lenR Sl_39 rfl rfl ph0) rfl <| la rfl <| en ?_
 refine cdh rfl h (fun c1 h => ?_) (fun c1 h => ?_)
 ·refine WT.skip <| sq <| blk <| sr <| la rfl <| la rfl ?_
  obtain ⟨x1, hx1, h⟩ := bs h
  obtain ⟨cs1, F1, -, g1, hb1, hs1, r1⟩ := ph0.el (idx_some hx1).2.2
  obtain ⟨rfl, -⟩ := r1
  refine lq (q_indexAddr Sl_39 rfl rfl ph0 hx1) rfl <| lg11 0 Tn_34 g1 rfl rfl ?_
  obtain ⟨x2, hx2, h⟩ := bs h
  refine lp (p_call Fun_17 rfl (fun w1 hw => m_s_ExprOk_ok hw.fro N x1 hx2)) rfl <| la rfl <| en ?_
  refine cdh rfl h (fun c2 h => ?_) (fun c2 h => ?_)
  ·refine sr <| la rfl <| en ?_
   refine WT.ret Tryd.func35 (resOk.one rfl) (fun w1 hw => ?_)
   subst hb0
   cases h
   exact post_of_St hw
  refine WT.skip <| ib <| rgn <| la rfl <| la rfl <| la rfl <| en ?_
  exact lback (ih1 (IntKind.i64.wrap (s1 + 1)) h) ⟨rfl, rfl, trivial⟩ (fun w1 hw => (hw.sel (js := []) rfl).selO (js := []) rfl)
 refine xt rfl <| sr <| la rfl <| lq (q_lenR Sl_39 rfl rfl ph0) rfl <| la rfl <| la rfl <| en ?_
 refine WT.ret Tryd.func35 (resOk.one rfl) (fun w1 hw => ?_)
 subst hb0
 cases h
 exact post_of_St hw
theorem m_s_ActOk_ok {Φ : Hp} {w : World} (hΦ : In Φ w) (N : Nat) (p0 : TAct) {pv0_0 : Value} {pG0_0 : List Nat} (ph0_0 : RSl RTExpr 11 Φ pG0_0 pv0_0 p0.Args) {r : Bool} (h : m_s_ActOk N p0 = some r) :
  Calls Tryd.prog 15 [.agg [.int .i64 p0.Kind, .string p0.Name, pv0_0, .int .i64 p0.N, .string p0.Undo].toArray].toArray w (Post (.bool r) w) := by
 refine enter Tryd.func15 rfl Tryd.ntmps15 rfl (St.start0 hΦ) ?_
 generalize hb0 : (⟨w, [], Φ⟩ : Base) = w0
 unfold m_s_ActOk at h
 refine sr ?_
 refine ln (nb rfl) rfl (fun b_1 => ?_)
 refine la rfl <| en <| sr <| lf Fld_41_1 rfl rfl rfl <| lo T1_9 0 rfl <| la rfl <| la rfl ?_
 obtain ⟨b1, hb_1, h⟩ := bs h
 refine WL.cutN 5 [(12, .bool b1), (1, .pointer (some ⟨b_1, 0, none⟩))] ?_ (fun K => ?_)
 rotate_left
 ·refine spl 7 rfl hb_1 (fun c1 hb_1 => ?_) (fun c1 hb_1 => ?_)
  ·refine ly rfl rfl <| lf Fld_41_2 rfl rfl rfl <| ly rfl rfl <| lo T1_39 0 rfl <| ly rfl rfl <| lq (q_lenR Sl_39 rfl rfl ph0_0) rfl <| ly rfl rfl <| la rfl <| la rfl ?_
   cases hb_1
   exact kk K ⟨rfl, rfl, trivial⟩
  ·refine la rfl <| la rfl <| la rfl <| la rfl <| la rfl ?_
   cases hb_1
   exact kk K ⟨rfl, rfl, trivial⟩
 refine la rfl ?_
 obtain ⟨b2, hb_2, h⟩ := bs h
 refine WL.cutN 4 [(17, .bool b2), (1, .pointer (some ⟨b_1, 0, none⟩))] ?_ (fun K => ?_)
 rotate_left
 ·refine spl 13 rfl hb_2 (fun c2 hb_2 => ?_) (fun c2 hb_2 => ?_)
  ·refine ly rfl rfl <| lf Fld_41_4 rfl rfl rfl <| ly rfl rfl <| lo T1_9 0 rfl <| ly rfl rfl <| la rfl <| la rfl ?_
   cases hb_2
   exact kk K ⟨rfl, rfl, trivial⟩
  ·refine la rfl <| la rfl <| la rfl <| la rfl ?_
   cases hb_2
   exact kk K ⟨rfl, rfl, trivial⟩
 refine la rfl <| en <| sq <| sr <| lf Fld_41_0 rfl rfl rfl <| lo T1_3 0 rfl <| en <| blk <| sr <| la rfl <| la rfl <| en ?_
 refine cdh rfl h (fun c3 h => ?_) (fun c3 h => ?_)
 ·refine sr <| lf Fld_41_1 rfl rfl rfl <| lo T1_9 0 rfl ?_
  obtain ⟨x1, hx1, h⟩ := bs h
  refine lp (p_call Fun_34 rfl (fun w1 hw => m_s_NameOk_ok hw.fro N p0.Name hx1)) rfl <| la rfl ?_
  obtain ⟨b3, hb_3, h⟩ := bs h
  refine WL.cutN 4 [(29, .bool b3), (1, .pointer (some ⟨b_1, 0, none⟩))] ?_ (fun K => ?_)
  rotate_left
  ·refine spl 25 rfl hb_3 (fun c4 hb_3 => ?_) (fun c4 hb_3 => ?_)
   ·refine ly rfl rfl <| lf Fld_41_2 rfl rfl rfl <| ly rfl rfl <| lo T1_39 0 rfl <| ly rfl rfl ?_
    obtain ⟨x2, hx2, hb_3⟩ := bs hb_3
    refine lp (p_call Fun_35 rfl (fun w1 hw => m_s_l8Args_ok hw.fro N p0.Args ph0_0 hx2)) rfl <| la rfl ?_
    cases hb_3
    exact kk K ⟨rfl, rfl, trivial⟩
   ·refine la rfl <| la rfl <| la rfl <| la rfl ?_
    cases hb_3
    exact kk K ⟨rfl, rfl, trivial⟩
  refine la rfl ?_
  obtain ⟨b4, hb_4, h⟩ := bs h
  refine WL.cutN 4 [(34, .bool b4), (1, .pointer (some ⟨b_1, 0, none⟩))] ?_ (fun K => ?_)
  rotate_left
  ·refine spl 30 rfl hb_4 (fun c5 hb_4 => ?_) (fun c5 hb_4 => ?_)
   ·refine ly rfl rfl <| lf Fld_41_3 rfl rfl rfl <| ly rfl rfl <| lo T1_3 0 rfl <| ly rfl rfl <| la rfl <| la rfl ?_
    cases hb_4
    exact kk K ⟨rfl, rfl, trivial⟩
   ·refine la rfl <| la rfl <| la rfl <| la rfl ?_
    cases hb_4
    exact kk K ⟨rfl, rfl, trivial⟩
  refine la rfl ?_
  obtain ⟨b5, hb_5, h⟩ := bs h
  refine WL.cutN 4 [(39, .bool b5)] ?_ (fun K => ?_)
  rotate_left
  ·refine spl 35 rfl hb_5 (fun c6 hb_5 => ?_) (fun c6 hb_5 => ?_)
   ·refine ly rfl rfl <| lf Fld_41_4 rfl rfl rfl <| ly rfl rfl <| lo T1_9 0 rfl <| ly rfl rfl <| la rfl <| la rfl ?_
    cases hb_5
    exact kk K ⟨rfl, trivial⟩
   ·refine la rfl <| la rfl <| la rfl <| la rfl ?_
    cases hb_5
    exact kk K ⟨rfl, trivial⟩
  refine la rfl <| en ?_
  refine WT.ret Tryd.func15 (resOk.one rfl) (fun w1 hw => ?_)
  subst hb0
  cases h
  exact post_of_St hw
 refine sr <| la rfl <| la rfl <| en ?_
 refine cdh rfl h (fun c7 h => ?_) (fun c7 h => ?_)
 ·refine sr <| lf Fld_41_1 rfl rfl rfl <| lo T1_9 0 rfl ?_
  obtain ⟨x3, hx3, h⟩ := bs h
  refine lp (p_call Fun_34 rfl (fun w1 hw => m_s_NameOk_ok hw.fro N p0.Name hx3)) rfl <| la rfl ?_
  obtain ⟨b6, hb_6, h⟩ := bs h
  refine WL.cutN 4 [(49, .bool b6), (1, .pointer (some ⟨b_1, 0, none⟩))] ?_ (fun K => ?_)
  rotate_left
  ·refine spl 45 rfl hb_6 (fun c8 hb_6 => ?_) (fun c8 hb_6 => ?_)
   ·refine ly rfl rfl <| lf Fld_41_2 rfl rfl rfl <| ly rfl rfl <| lo T1_39 0 rfl <| ly rfl rfl ?_
    obtain ⟨x4, hx4, hb_6⟩ := bs hb_6
    refine lp (p_call Fun_35 rfl (fun w1 hw => m_s_l8Args_ok hw.fro N p0.Args ph0_0 hx4)) rfl <| la rfl ?_
    cases hb_6
    exact kk K ⟨rfl, rfl, trivial⟩
   ·refine la rfl <| la rfl <| la rfl <| la rfl ?_
    cases hb_6
    exact kk K ⟨rfl, rfl, trivial⟩
  refine la rfl ?_
  obtain ⟨b7, hb_7, h⟩ := bs h
  refine WL.cutN 4 [(54, .bool b7), (1, .pointer (some ⟨b_1, 0, none⟩))] ?_ (fun K => ?_)
  rotate_left
  ·refine spl 50 rfl hb_7 (fun c9 hb_7 => ?_) (fun c9 hb_7 => ?_)
   ·refine ly rfl rfl <| lf Fld_41_3 rfl rfl rfl <| ly rfl rfl <| lo T1_3 0 rfl <| ly rfl rfl <| la rfl <| la rfl ?_
    cases hb_7
    exact kk K ⟨rfl, rfl, trivial⟩
   ·refine la rfl <| la rfl <| la rfl <| la rfl ?_
    cases hb_7
    exact kk K ⟨rfl, rfl, trivial⟩
  refine la rfl ?_
  obtain ⟨b8, hb_8, h⟩ := bs h
  refine WL.cutN 9 [(64, .bool b8)] ?_ (fun K => ?_)
  rotate_left
  ·refine spl 55 rfl hb_8 (fun c10 hb_8 => ?_) (fun c10 hb_8 => ?_)
   ·refine ly rfl rfl <| lf Fld_41_4 rfl rfl rfl <| ly rfl rfl <| lo T1_9 0 rfl <| ly rfl rfl <| la rfl <| ly rfl rfl <| la rfl ?_
    obtain ⟨b9, hb_9, hb_8⟩ := bs hb_8
    refine WL.cutN 4 [(63, .bool b9), (55, .bool true)] ?_ (fun K => ?_)
    rotate_left
    ·refine spl 59 rfl hb_9 (fun c11 hb_9 => ?_) (fun c11 hb_9 => ?_)
     ·refine la rfl <| la rfl <| la rfl <| ly rfl rfl <| la rfl ?_
      cases hb_9
      exact kk K ⟨rfl, rfl, trivial⟩
     ·refine ly rfl rfl <| lf Fld_41_4 rfl rfl rfl <| ly rfl rfl <| lo T1_9 0 rfl <| ly rfl rfl ?_
      obtain ⟨x5, hx5, hb_9⟩ := bs hb_9
      refine lp (p_call Fun_34 rfl (fun w1 hw => m_s_NameOk_ok hw.fro N p0.Undo hx5)) rfl <| ly rfl rfl <| la rfl ?_
      cases hb_9
      exact kk K ⟨rfl, rfl, trivial⟩
    refine la rfl ?_
    cases hb_8
    exact kk K ⟨rfl, trivial⟩
   ·refine la rfl <| la rfl <| la rfl <| la rfl <| WL.nox rfl rfl rfl rfl <| WL.nox rfl rfl rfl rfl <| WL.nox rfl rfl rfl rfl <| la rfl <| la rfl ?_
    cases hb_8
    exact kk K ⟨rfl, trivial⟩
  refine la rfl <| en ?_
  refine WT.ret Tryd.func15 (resOk.one rfl) (fun w1 hw => ?_)
  subst hb0
  cases h
  exact post_of_St hw
 refine sr <| la rfl <| la rfl <| en ?_
 refine cdh rfl h (fun c12 h => ?_) (fun c12 h => ?_)
 ·refine sr <| lf Fld_41_1 rfl rfl rfl <| lo T1_9 0 rfl ?_
  obtain ⟨x6, hx6, h⟩ := bs h
  refine lp (p_call Fun_34 rfl (fun w1 hw => m_s_NameOk_ok hw.fro N p0.Name hx6)) rfl <| la rfl ?_
  obtain ⟨b10, hb_10, h⟩ := bs h
  refine WL.cutN 4 [(74, .bool b10), (1, .pointer (some ⟨b_1, 0, none⟩))] ?_ (fun K => ?_)
  rotate_left
  ·refine spl 70 rfl hb_10 (fun c13 hb_10 => ?_) (fun c13 hb_10 => ?_)
   ·refine ly rfl rfl <| lf Fld_41_2 rfl rfl rfl <| ly rfl rfl <| lo T1_39 0 rfl <| ly rfl rfl ?_
    obtain ⟨x7, hx7, hb_10⟩ := bs hb_10
    refine lp (p_call Fun_35 rfl (fun w1 hw => m_s_l8Args_ok hw.fro N p0.Args ph0_0 hx7)) rfl <| la rfl ?_
    cases hb_10
    exact kk K ⟨rfl, rfl, trivial⟩
   ·refine la rfl <| la rfl <| la rfl <| la rfl ?_
    cases hb_10
    exact kk K ⟨rfl, rfl, trivial⟩
  refine la rfl ?_
  obtain ⟨b11, hb_11, h⟩ := bs h
  refine WL.cutN 4 [(79, .bool b11), (1, .pointer (some ⟨b_1, 0, none⟩))] ?_ (fun K => ?_)
  rotate_left
  ·refine spl 75 rfl hb_11 (fun c14 hb_11 => ?_) (fun c14 hb_11 => ?_)
   ·refine ly rfl rfl <| lf Fld_41_3 rfl rfl rfl <| ly rfl rfl <| lo T1_3 0 rfl <| ly rfl rfl ?_
    obtain ⟨x8, hx8, hb_11⟩ := bs hb_11
    refine lp (p_call Fun_36 rfl (fun w1 hw => m_s_l1In_ok hw.fro N p0.N 0 100000 hx8)) rfl <| la rfl ?_
    cases hb_11
    exact kk K ⟨rfl, rfl, trivial⟩
   ·refine la rfl <| la rfl <| la rfl <| la rfl ?_
    cases hb_11
    exact kk K ⟨rfl, rfl, trivial⟩
  refine la rfl ?_
  obtain ⟨b12, hb_12, h⟩ := bs h
  refine WL.cutN 4 [(84, .bool b12)] ?_ (fun K => ?_)
  rotate_left
  ·refine spl 80 rfl hb_12 (fun c15 hb_12 => ?_) (fun c15 hb_12 => ?_)
   ·refine ly rfl rfl <| lf Fld_41_4 rfl rfl rfl <| ly rfl rfl <| lo T1_9 0 rfl <| ly rfl rfl <| la rfl <| la rfl ?_
    cases hb_12
    exact kk K ⟨rfl, trivial⟩
   ·refine la rfl <| la rfl <| la rfl <| la rfl ?_
    cases hb_12
    exact kk K ⟨rfl, trivial⟩
  refine la rfl <| en ?_
  refine WT.ret Tryd.func15 (resOk.one rfl) (fun w1 hw => ?_)
  subst hb0
  cases h
  exact post_of_St hw
 refine sr <| la rfl <| la rfl <| en ?_
 refine cdh rfl h (fun c16 h => ?_) (fun c16 h => ?_)
 ·refine sr <| la rfl <| la rfl ?_
  obtain ⟨b13, hb_13, h⟩ := bs h
  refine WL.cutN 4 [(92, .bool b13)] ?_ (fun K => ?_)
  rotate_left
  ·refine spl 88 rfl hb_13 (fun c17 hb_13 => ?_) (fun c17 hb_13 => ?_)
   ·refine ly rfl rfl <| lf Fld_41_3 rfl rfl rfl <| ly rfl rfl <| lo T1_3 0 rfl <| ly rfl rfl ?_
    obtain ⟨x9, hx9, hb_13⟩ := bs hb_13
    refine lp (p_call Fun_36 rfl (fun w1 hw => m_s_l1In_ok hw.fro N p0.N 0 7 hx9)) rfl <| la rfl ?_
    cases hb_13
    exact kk K ⟨rfl, trivial⟩
   ·refine la rfl <| la rfl <| la rfl <| la rfl ?_
    cases hb_13
    exact kk K ⟨rfl, trivial⟩
  refine la rfl <| en ?_
  refine WT.ret Tryd.func15 (resOk.one rfl) (fun w1 hw => ?_)
  subst hb0
  cases h
  exact post_of_St hw
 refine sq <| sr <| la rfl <| la rfl <| en ?_
 refine cut (σ := Bool) (fun s => [(1, .pointer (some ⟨b_1, 0, none⟩)), (3, .bool b2), (93, .bool s)]) (fun s => St w0 Φ [(b_1, .cells #[.int .i64 p0.Kind, .string p0.Name, pv0_0, .int .i64 p0.N, .string p0.Undo] 41 (0, 0))] []) (fun s => m_s_ActOk_j1 N p0 b2 s = some r) (fun s hm => ?_) (fun K => ?_)
 ·clear h
  revert hm; revert s; intro s1 hm
  have h : m_s_ActOk_j1 N p0 b2 s1 = some r := hm
  show WT _ _ [(1, .pointer (some ⟨b_1, 0, none⟩)), (3, .bool b2), (93, .bool s1)] (St w0 Φ [(b_1, .cells #[.int .i64 p0.Kind, .string p0.Name, pv0_0, .int .i64 p0.N, .string p0.Undo] 41 (0, 0))] [])
  unfold m_s_ActOk_j1 at h
  refine cdh rfl h (fun c18 h => ?_) (fun c18 h => ?_)
  ·refine sr <| la rfl <| la rfl ?_
   obtain ⟨b14, hb_14, h⟩ := bs h
   refine WL.cutN 4 [(101, .bool b14)] ?_ (fun K => ?_)
   rotate_left
   ·refine spl 97 rfl hb_14 (fun c19 hb_14 => ?_) (fun c19 hb_14 => ?_)
    ·refine ly rfl rfl <| lf Fld_41_3 rfl rfl rfl <| ly rfl rfl <| lo T1_3 0 rfl <| ly rfl rfl <| la rfl <| la rfl ?_
     cases hb_14
     exact kk K ⟨rfl, trivial⟩
    ·refine la rfl <| la rfl <| la rfl <| la rfl ?_
     cases hb_14
     exact kk K ⟨rfl, trivial⟩
   refine la rfl <| en ?_
   refine WT.ret Tryd.func15 (resOk.one rfl) (fun w1 hw => ?_)
   subst hb0
   cases h
   exact post_of_St hw
  refine WT.skip <| ib <| sr <| la rfl <| en ?_
  refine WT.ret Tryd.func15 (resOk.one rfl) (fun w1 hw => ?_)
  subst hb0
  cases h
  exact post_of_St hw
 refine cdh rfl h (fun c20 h => ?_) (fun c20 h => ?_)
 ·refine WT.skip ?_
  exact wto (K (decide (p0.Kind = 5)) h) ⟨rfl, rfl, rfl, trivial⟩ (fun w1 hw => (hw.sel (js := []) rfl).selO (js := [0]) rfl)
 refine rgn <| la rfl <| la rfl <| en ?_
 exact wto (K (decide (p0.Kind = 6)) h) ⟨rfl, rfl, rfl, trivial⟩ (fun w1 hw => (hw.sel (js := []) rfl).selO (js := [0]) rfl)
theorem m_s_l2Num_ok (N : Nat) : ∀ {Φ : Hp} {w : World} (hΦ : In Φ w) (p0 : Int)   {r : ByteArray} (h : m_s_l2Num N p0 = some r),
  Calls Tryd.prog 38 [.int .i64 p0].toArray w (Post (.string r) w) := by
 induction N with
 | zero => intros; rename_i h; simp [m_s_l2Num] at h
 | succ N ih =>
 intro Φ w hΦ p0 r h
 refine enter Tryd.func38 rfl Tryd.ntmps38 rfl (St.start0 hΦ) ?_
 generalize hb0 : (⟨w, [], Φ⟩ : Base) = w0
 unfold m_s_l2Num at h
 refine sr <| la rfl <| en <| sq <| blk <| sr <| la rfl <| la rfl <| la rfl <| en ?_
 refine cdh rfl h (fun c1 h => ?_) (fun c1 h => ?_)
 ·refine sr <| la rfl <| lq (q_neg rfl) rfl ?_
  obtain ⟨x1, hx1, h⟩ := bs h
  refine lp (p_call Fun_38 rfl (fun w1 hw => ih hw.fro (IntKind.i64.wrap (0 - p0)) hx1)) rfl ?_
  obtain ⟨z1, hz1, h⟩ := bs h
  refine lq (q_cat rfl rfl hz1) rfl <| la rfl <| en ?_
  refine WT.ret Tryd.func38 (resOk.one rfl) (fun w1 hw => ?_)
  subst hb0
  cases h
  exact post_of_St hw
 refine sr <| la rfl <| la rfl <| la rfl <| en ?_
 refine cdh rfl h (fun c2 h => ?_) (fun c2 h => ?_)
 ·refine sr <| la rfl <| la rfl <| lq (q_convI Ik_3 Ik_5 rfl) rfl ?_
  have rc1 : RC (RI .u8) 1 Φ ([[]] : List (List Nat)) [.int .u8 (IntKind.u8.wrap (IntKind.i64.wrap (48 + p0)))] ([(IntKind.u8.wrap (IntKind.i64.wrap (48 + p0)))] : List Int) := RC.cons (c := [.int .u8 (IntKind.u8.wrap (IntKind.i64.wrap (48 + p0)))]) (cells := []) ⟨rfl, rfl⟩ rfl (RC.nil _ _ _)
  refine le' (e_lit (vs := [(0, .int .u8 (IntKind.u8.wrap (IntKind.i64.wrap (48 + p0))))]) (C := #[.int .u8 (IntKind.u8.wrap (IntKind.i64.wrap (48 + p0)))]) RI.lasts Sl_37 Zr_5 rfl rfl rfl rfl (fill_made MC_5_1 (fill_cons (C' := [.int .u8 (IntKind.u8.wrap (IntKind.i64.wrap (48 + p0)))]) rfl rfl rfl rfl rfl (fill_nil))) rfl rc1 rfl (by simpa using Kw.nil)) rfl (fun v1 Φ_1 D1 q1 => ?_)
  obtain ⟨fr1, h1⟩ := q1
  replace h1 : OSl (RI .u8) 5 1 Φ_1 [] v1 ([(IntKind.u8.wrap (IntKind.i64.wrap (48 + p0)))] : List Int) := by simpa using h1
  refine lq (q_convB Sl_37 Ik_5 Str_9 rfl h1.rsl) rfl <| la rfl <| en ?_
  refine WT.ret Tryd.func38 (resOk.one rfl) (fun w1 hw => ?_)
  subst hb0
  cases h
  exact post_of_St hw
 refine WT.skip <| ib <| sq ?_
 refine cut (σ := Hp × ByteArray) (fun s => [(2, .string s.2)]) (fun s => St w0 s.1 [] []) (fun s => m_s_l2Num_j1 N s.2 = some r) (fun s hm => ?_) (fun K => ?_)
 ·clear h
  obtain ⟨Φ_3, s1⟩ := s
  have h : m_s_l2Num_j1 N s1 = some r := hm
  show WT _ _ [(2, .string s1)] (St w0 Φ_3 [] [])
  unfold m_s_l2Num_j1 at h
  refine WT.ret Tryd.func38 (resOk.one rfl) (fun w1 hw => ?_)
  subst hb0
  cases h
  exact post_of_St hw
 refine WT.mix (Kn Φ [] []) (fun _ => true) mixed (fun _ h => h.drew) <| ma 0 rfl (by kernel_rfl) (kn Kf.nil aN) rfl <| mq 1 rfl (by kernel_rfl) (kn Kf.nil aN) (q_quo rfl rfl (by decide)) rfl <| ma 3 rfl (by kernel_rfl) (kn Kf.nil aN) rfl <| mq 4 rfl (by kernel_rfl) (kn Kf.nil aN) (q_rem rfl rfl (by decide)) rfl <| ma 5 rfl (by kernel_rfl) (kn Kf.nil aN) rfl <| mq 6 rfl (by kernel_rfl) (kn Kf.nil aN) (q_convI Ik_3 Ik_5 rfl) rfl ?_
 refine WM.two 2 7 (by kernel_rfl) ?_ ?_
 ·obtain ⟨x3, hx3, h⟩ := bs h
  refine mp rfl (fun _ w1 hw => Kn.of Kf.nil aN hw) (p_call Fun_38 rfl (fun w1 hw => ih hw.fro (IntKind.i64.wrap (p0.tdiv 10)) hx3)) rfl ?_
  have rc3 : RC (RI .u8) 1 Φ ([[]] : List (List Nat)) [.int .u8 (IntKind.u8.wrap (IntKind.i64.wrap (48 + (p0.tmod 10))))] ([(IntKind.u8.wrap (IntKind.i64.wrap (48 + (p0.tmod 10))))] : List Int) := RC.cons (c := [.int .u8 (IntKind.u8.wrap (IntKind.i64.wrap (48 + (p0.tmod 10))))]) (cells := []) ⟨rfl, rfl⟩ rfl (RC.nil _ _ _)
  refine WM.one 7 (by kernel_rfl) (me rfl (fun _ v Φx D w1 hq hw => Kn.of Kf.nil aN hw) (e_lit (vs := [(0, .int .u8 (IntKind.u8.wrap (IntKind.i64.wrap (48 + (p0.tmod 10)))))]) (C := #[.int .u8 (IntKind.u8.wrap (IntKind.i64.wrap (48 + (p0.tmod 10))))]) RI.lasts Sl_37 Zr_5 rfl rfl rfl rfl (fill_made MC_5_1 (fill_cons (C' := [.int .u8 (IntKind.u8.wrap (IntKind.i64.wrap (48 + (p0.tmod 10))))]) rfl rfl rfl rfl rfl (fill_nil))) rfl rc3 rfl (by simpa using Kw.nil)) rfl (fun v3 Φ_4 D3 q3 => ?_))
  obtain ⟨fr3, h3⟩ := q3
  replace h3 : OSl (RI .u8) 5 1 Φ_4 [] v3 ([(IntKind.u8.wrap (IntKind.i64.wrap (48 + (p0.tmod 10))))] : List Int) := by simpa using h3
  refine WM.one 8 (by kernel_rfl) (mv rfl (fun _ w1 hw => Kn.of Kf.nil aN hw) (q_convB Sl_37 Ik_5 Str_9 rfl h3.rsl) rfl ?_)
  obtain ⟨z3, hz3, h⟩ := bs h
  refine mq 9 rfl (by kernel_rfl) (kn Kf.nil aN) (q_cat rfl rfl hz3) rfl <| ma 10 rfl (by kernel_rfl) (kn Kf.nil aN) rfl <| WM.nil (by kernel_rfl) ?_
  exact wto (K (Φ_4, z3) h) ⟨rfl, trivial⟩ (fun w1 hw => (hw.sel (js := []) rfl).selO (js := []) rfl)
 have rc4 : RC (RI .u8) 1 Φ ([[]] : List (List Nat)) [.int .u8 (IntKind.u8.wrap (IntKind.i64.wrap (48 + (p0.tmod 10))))] ([(IntKind.u8.wrap (IntKind.i64.wrap (48 + (p0.tmod 10))))] : List Int) := RC.cons (c := [.int .u8 (IntKind.u8.wrap (IntKind.i64.wrap (48 + (p0.tmod 10))))]) (cells := []) ⟨rfl, rfl⟩ rfl (RC.nil _ _ _)
 refine me rfl (fun _ v Φx D w1 hq hw => Kn.of Kf.nil aN hw) (e_lit (vs := [(0, .int .u8 (IntKind.u8.wrap (IntKind.i64.wrap (48 + (p0.tmod 10)))))]) (C := #[.int .u8 (IntKind.u8.wrap (IntKind.i64.wrap (48 + (p0.tmod 10))))]) RI.lasts Sl_37 Zr_5 rfl rfl rfl rfl (fill_made MC_5_1 (fill_cons (C' := [.int .u8 (IntKind.u8.wrap (IntKind.i64.wrap (48 + (p0.tmod 10))))]) rfl rfl rfl rfl rfl (fill_nil))) rfl rc4 rfl (by simpa using Kw.nil)) rfl (fun v4 Φ_5 D4 q4 => ?_)
 obtain ⟨fr4, h4⟩ := q4
 replace h4 : OSl (RI .u8) 5 1 Φ_5 [] v4 ([(IntKind.u8.wrap (IntKind.i64.wrap (48 + (p0.tmod 10))))] : List Int) := by simpa using h4
 refine WM.two 2 8 (by kernel_rfl) ?_ ?_
 ·obtain ⟨x4, hx4, h⟩ := bs h
  refine mp rfl (fun _ w1 hw => Kn.of Kf.nil aN hw) (p_call Fun_38 rfl (fun w1 hw => ih hw.fro (IntKind.i64.wrap (p0.tdiv 10)) hx4)) rfl ?_
  refine WM.one 8 (by kernel_rfl) (mv rfl (fun _ w1 hw => Kn.of Kf.nil aN hw) (q_convB Sl_37 Ik_5 Str_9 rfl h4.rsl) rfl ?_)
  obtain ⟨z4, hz4, h⟩ := bs h
  refine mq 9 rfl (by kernel_rfl) (kn Kf.nil aN) (q_cat rfl rfl hz4) rfl <| ma 10 rfl (by kernel_rfl) (kn Kf.nil aN) rfl <| WM.nil (by kernel_rfl) ?_
  exact wto (K (Φ_5, z4) h) ⟨rfl, trivial⟩ (fun w1 hw => (hw.sel (js := []) rfl).selO (js := []) rfl)
 refine mv rfl (fun _ w1 hw => Kn.of Kf.nil aN hw) (q_convB Sl_37 Ik_5 Str_9 rfl h4.rsl) rfl ?_
 obtain ⟨x5, hx5, h⟩ := bs h
 refine WM.one 2 (by kernel_rfl) (mp rfl (fun _ w1 hw => Kn.of Kf.nil aN hw) (p_call Fun_38 rfl (fun w1 hw => ih hw.fro (IntKind.i64.wrap (p0.tdiv 10)) hx5)) rfl ?_)
 obtain ⟨z5, hz5, h⟩ := bs h
 refine mq 9 rfl (by kernel_rfl) (kn Kf.nil aN) (q_cat rfl rfl hz5) rfl <| ma 10 rfl (by kernel_rfl) (kn Kf.nil aN) rfl <| WM.nil (by kernel_rfl) ?_
 exact wto (K (Φ_5, z5) h) ⟨rfl, trivial⟩ (fun w1 hw => (hw.sel (js := []) rfl).selO (js := []) rfl)
theorem m_s_l2Text_ok {Φ : Hp} {w : World} (hΦ : In Φ w) (N : Nat) (p0 : TVal)   {r : ByteArray} (h : m_s_l2Text N p0 = some r) :
  Calls Tryd.prog 44 [.agg [.int .i64 p0.K, .int .i64 p0.N, .string p0.S].toArray].toArray w (Post (.string r) w) := by
 refine enter Tryd.func44 rfl Tryd.ntmps44 rfl (St.start0 hΦ) ?_
 unfold m_s_l2Text at h
 refine sr ?_
 refine ln (nb rfl) rfl (fun b_1 => ?_)
 refine la rfl <| en <| sq <| sr <| lf Fld_30_0 rfl rfl rfl <| lo T1_3 0 rfl <| la rfl <| en ?_
 refine cdh rfl h (fun c1 h => ?_) (fun c1 h => ?_)
 ·refine sr <| lf Fld_30_1 rfl rfl rfl <| lo T1_3 0 rfl ?_
  obtain ⟨x1, hx1, h⟩ := bs h
  refine lp (p_call Fun_38 rfl (fun w1 hw => m_s_l2Num_ok N hw.fro p0.N hx1)) rfl <| la rfl <| en ?_
  refine WT.ret Tryd.func44 (resOk.one rfl) (fun w1 hw => ?_)
  cases h
  exact post_of_St hw
 refine WT.skip <| sr <| lf Fld_30_2 rfl rfl rfl <| lo T1_9 0 rfl ?_
 obtain ⟨z1, hz1, h⟩ := bs h
 refine lq (q_cat rfl rfl hz1) rfl ?_
 obtain ⟨z2, hz2, h⟩ := bs h
 refine lq (q_cat rfl rfl hz2) rfl <| la rfl <| en ?_
 refine WT.ret Tryd.func44 (resOk.one rfl) (fun w1 hw => ?_)
 cases h
 exact post_of_St hw
theorem m_s_l6ArgText_ok {Φ : Hp} {w : World} (hΦ : In Φ w) (N : Nat) (p0 : TArg)   {r : ByteArray} (h : m_s_l6ArgText N p0 = some r) :
  Calls Tryd.prog 22 [.agg [.int .i64 p0.K, .string p0.S, .int .i64 p0.V.K, .int .i64 p0.V.N, .string p0.V.S].toArray].toArray w (Post (.string r) w) := by
 refine enter Tryd.func22 rfl Tryd.ntmps22 rfl (St.start0 hΦ) ?_
 unfold m_s_l6ArgText at h
 refine sr ?_
 refine ln (nb rfl) rfl (fun b_1 => ?_)
 refine la rfl <| en <| sq <| sr <| lf Fld_32_0 rfl rfl rfl <| lo T1_3 0 rfl <| en <| blk <| sr <| la rfl <| la rfl <| en ?_
 refine cdh rfl h (fun c1 h => ?_) (fun c1 h => ?_)
 ·refine sr <| lf Fld_32_1 rfl rfl rfl <| lo T1_9 0 rfl <| la rfl <| en ?_
  refine WT.ret Tryd.func22 (resOk.one rfl) (fun w1 hw => ?_)
  cases h
  exact post_of_St hw
 refine sr <| la rfl <| la rfl <| en ?_
 refine cdh rfl h (fun c2 h => ?_) (fun c2 h => ?_)
 ·refine sr <| lf Fld_32_2 rfl rfl rfl <| ld3 Tn_30 0 rfl ?_
  obtain ⟨x1, hx1, h⟩ := bs h
  refine lp (p_call Fun_44 rfl (fun w1 hw => m_s_l2Text_ok hw.fro N p0.V hx1)) rfl <| la rfl <| en ?_
  refine WT.ret Tryd.func22 (resOk.one rfl) (fun w1 hw => ?_)
  cases h
  exact post_of_St hw
 refine WT.skip <| ib <| sr <| la rfl <| en ?_
 refine WT.ret Tryd.func22 (resOk.one rfl) (fun w1 hw => ?_)
 cases h
 exact post_of_St hw
theorem m_s_ExprText_ok {Φ : Hp} {w : World} (hΦ : In Φ w) (N : Nat) (p0 : TExpr)   {r : ByteArray} (h : m_s_ExprText N p0 = some r) :
  Calls Tryd.prog 7 [.agg [.string p0.Op, .int .i64 p0.L.K, .string p0.L.S, .int .i64 p0.L.V.K, .int .i64 p0.L.V.N, .string p0.L.V.S, .int .i64 p0.R.K, .string p0.R.S, .int .i64 p0.R.V.K, .int .i64 p0.R.V.N, .string p0.R.V.S].toArray].toArray w (Post (.string r) w) := by
 refine enter Tryd.func7 rfl Tryd.ntmps7 rfl (St.start0 hΦ) ?_
 unfold m_s_ExprText at h
 refine sr ?_
 refine ln (nb rfl) rfl (fun b_1 => ?_)
 refine la rfl <| en <| sq <| sr <| ld11 Tn_34 0 rfl ?_
 obtain ⟨x1, hx1, h⟩ := bs h
 refine lp (p_call Fun_17 rfl (fun w1 hw => m_s_ExprOk_ok hw.fro N p0 hx1)) rfl <| la rfl <| en ?_
 refine cdh rfl h (fun c1 h => ?_) (fun c1 h => ?_)
 ·refine sr <| la rfl <| en ?_
  refine WT.ret Tryd.func7 (resOk.one rfl) (fun w1 hw => ?_)
  cases h
  exact post_of_St hw
 refine WT.skip <| sq <| sr <| lf Fld_34_0 rfl rfl rfl <| lo T1_9 0 rfl <| la rfl <| en ?_
 refine cdh rfl h (fun c2 h => ?_) (fun c2 h => ?_)
 ·refine sr <| lf Fld_34_1 rfl rfl rfl <| ld5 Tn_32 0 rfl ?_
  obtain ⟨x2, hx2, h⟩ := bs h
  refine lp (p_call Fun_22 rfl (fun w1 hw => m_s_l6ArgText_ok hw.fro N p0.L hx2)) rfl <| la rfl <| en ?_
  refine WT.ret Tryd.func7 (resOk.one rfl) (fun w1 hw => ?_)
  cases h
  exact post_of_St hw
 refine WT.skip <| sq <| WT.draw mixed (by kernel_rfl) (fun _ h => h.drew) <| qq (q_fieldAddr Fld_34_1 rfl) rfl <| qq (q_loadN Tn_32 rfl (fun w1 hw => hw.rgO (i := 0) rfl 1 5 [.int .i64 p0.L.K, .string p0.L.S, .int .i64 p0.L.V.K, .int .i64 p0.L.V.N, .string p0.L.V.S] rfl) rfl) rfl ?_
 obtain ⟨x3, hx3, h⟩ := bs h
 refine qp (p_call Fun_22 rfl (fun w1 hw => m_s_l6ArgText_ok hw.fro N p0.L hx3)) rfl ?_
 obtain ⟨z1, hz1, h⟩ := bs h
 refine qq (q_cat rfl rfl hz1) rfl <| qq (q_fieldAddr Fld_34_0 rfl) rfl <| qq (q_load1 T1_9 rfl (fun w1 hw => hw.rgO (i := 0) rfl 0 1 [.string p0.Op] rfl)) rfl ?_
 obtain ⟨z2, hz2, h⟩ := bs h
 refine qq (q_cat rfl rfl hz2) rfl ?_
 obtain ⟨z3, hz3, h⟩ := bs h
 refine qq (q_cat rfl rfl hz3) rfl <| qq (q_fieldAddr Fld_34_2 rfl) rfl <| qq (q_loadN Tn_32 rfl (fun w1 hw => hw.rgO (i := 0) rfl 6 5 [.int .i64 p0.R.K, .string p0.R.S, .int .i64 p0.R.V.K, .int .i64 p0.R.V.N, .string p0.R.V.S] rfl) rfl) rfl ?_
 obtain ⟨x4, hx4, h⟩ := bs h
 refine qp (p_call Fun_22 rfl (fun w1 hw => m_s_l6ArgText_ok hw.fro N p0.R hx4)) rfl ?_
 obtain ⟨z4, hz4, h⟩ := bs h
 refine qq (q_cat rfl rfl hz4) rfl <| qq (q_assign rfl) rfl <| WQ.nil ?_
 refine WT.ret Tryd.func7 (resOk.one rfl) (fun w1 hw => ?_)
 cases h
 exact post_of_St hw
theorem m_s_l8ArgsText_ok {Φ : Hp} {w : World} (hΦ : In Φ w) (N : Nat) (p0 : TAct) {pv0_0 : Value} {pG0_0 : List Nat} (ph0_0 : RSl RTExpr 11 Φ pG0_0 pv0_0 p0.Args) {r : ByteArray} (h : m_s_l8ArgsText N p0 = some r) :
  Calls Tryd.prog 37 [.agg [.int .i64 p0.Kind, .string p0.Name, pv0_0, .int .i64 p0.N, .string p0.Undo].toArray].toArray w (Post (.string r) w) := by
 refine enter Tryd.func37 rfl Tryd.ntmps37 rfl (St.start0 hΦ) ?_
 generalize hb0 : (⟨w, [], Φ⟩ : Base) = w0
 unfold m_s_l8ArgsText at h
 refine sr ?_
 refine ln (nb rfl) rfl (fun b_1 => ?_)
 refine la rfl <| en <| sr <| lf Fld_41_1 rfl rfl rfl <| lo T1_9 0 rfl ?_
 obtain ⟨z1, hz1, h⟩ := bs h
 refine lq (q_cat rfl rfl hz1) rfl <| la rfl <| en <| sq <| sr <| la rfl <| en <| blk ?_
 refine loop_in (σ := ByteArray × Int) (fun s => [(1, .pointer (some ⟨b_1, 0, none⟩)), (3, .string s.1), (4, .int .i64 s.2)]) (fun s => St w0 Φ [(b_1, .cells #[.int .i64 p0.Kind, .string p0.Name, pv0_0, .int .i64 p0.N, .string p0.Undo] 41 (0, 0))] []) (fun m s => m_s_l8ArgsText_l1 N p0 m s.1 s.2 = some r) (z1, 0) N h ⟨rfl, rfl, rfl, trivial⟩ (fun w1 hw => (hw.sel (js := []) rfl).selO (js := [0]) rfl) (fun s hm => none_ne hm) (fun n1 ih1 s hm => ?_)
 obtain ⟨s1, s2⟩ := s
 have h : m_s_l8ArgsText_l1 N p0 (n1 + 1) s1 s2 = some r := hm
 show WT _ _ [(1, .pointer (some ⟨b_1, 0, none⟩)), (3, .string s1), (4, .int .i64 s2)] (St w0 Φ [(b_1, .cells #[.int .i64 p0.Kind, .string p0.Name, pv0_0, .int .i64 p0.N, .string p0.Undo] 41 (0, 0))] [])
 unfold m_s_l8ArgsText_l1 at h
 refine sq <| sr <| la rfl <| lf Fld_41_2 rfl rfl rfl <| lo T1_39 0 rfl <| lq (q_lenR Sl_39 rfl rfl ph0_0) rfl <| la rfl <| en ?_
 refine cdh rfl h (fun c1 h => ?_) (fun c1 h => ?_)
 ·refine WT.skip <| sq <| blk <| sq <| sr <| la rfl <| la rfl <| en ?_
  refine cut (σ := ByteArray) (fun s => [(1, .pointer (some ⟨b_1, 0, none⟩)), (3, .string s), (4, .int .i64 s2)]) (fun s => St w0 Φ [(b_1, .cells #[.int .i64 p0.Kind, .string p0.Name, pv0_0, .int .i64 p0.N, .string p0.Undo] 41 (0, 0))] []) (fun s => m_s_l8ArgsText_j2 N p0 s2 (m_s_l8ArgsText_l1 N p0 n1) s = some r) (fun s hm => ?_) (fun K => ?_)
  ·clear h
   revert hm; revert s; intro s3 hm
   have h : m_s_l8ArgsText_j2 N p0 s2 (m_s_l8ArgsText_l1 N p0 n1) s3 = some r := hm
   show WT _ _ [(1, .pointer (some ⟨b_1, 0, none⟩)), (3, .string s3), (4, .int .i64 s2)] (St w0 Φ [(b_1, .cells #[.int .i64 p0.Kind, .string p0.Name, pv0_0, .int .i64 p0.N, .string p0.Undo] 41 (0, 0))] [])
   unfold m_s_l8ArgsText_j2 at h
   refine rgn <| la rfl <| lf Fld_41_2 rfl rfl rfl <| lo T1_39 0 rfl <| la rfl ?_
   obtain ⟨x1, hx1, h⟩ := bs h
   obtain ⟨cs1, F1, -, g1, hb1, hs1, r1⟩ := ph0_0.el (idx_some hx1).2.2
   obtain ⟨rfl, -⟩ := r1
   refine lq (q_indexAddr Sl_39 rfl rfl ph0_0 hx1) rfl <| lg11 0 Tn_34 g1 rfl rfl ?_
   obtain ⟨x2, hx2, h⟩ := bs h
   refine lp (p_call Fun_7 rfl (fun w1 hw => m_s_ExprText_ok hw.fro N x1 hx2)) rfl ?_
   obtain ⟨z2, hz2, h⟩ := bs h
   refine lq (q_cat rfl rfl hz2) rfl <| la rfl <| en <| ib <| rgn <| la rfl <| la rfl <| la rfl <| en ?_
   exact lback (ih1 (z2, IntKind.i64.wrap (s2 + 1)) h) ⟨rfl, rfl, rfl, trivial⟩ (fun w1 hw => (hw.sel (js := []) rfl).selO (js := [0]) rfl)
  refine cdh rfl h (fun c2 h => ?_) (fun c2 h => ?_)
  ·refine rgn <| la rfl ?_
   obtain ⟨z3, hz3, h⟩ := bs h
   refine lq (q_cat rfl rfl hz3) rfl <| la rfl <| en ?_
   exact wto (K (z3) h) ⟨rfl, rfl, rfl, trivial⟩ (fun w1 hw => (hw.sel (js := []) rfl).selO (js := [0]) rfl)
  refine WT.skip ?_
  exact wto (K (s1) h) ⟨rfl, rfl, rfl, trivial⟩ (fun w1 hw => (hw.sel (js := []) rfl).selO (js := [0]) rfl)
 refine xt rfl <| sr <| la rfl ?_
 obtain ⟨z4, hz4, h⟩ := bs h
 refine lq (q_cat rfl rfl hz4) rfl <| la rfl <| en ?_
 refine WT.ret Tryd.func37 (resOk.one rfl) (fun w1 hw => ?_)
 subst hb0
 cases h
 exact post_of_St hw
theorem m_s_ActText_ok {Φ : Hp} {w : World} (hΦ : In Φ w) (N : Nat) (p0 : TAct) {pv0_0 : Value} {pG0_0 : List Nat} (ph0_0 : RSl RTExpr 11 Φ pG0_0 pv0_0 p0.Args) {r : ByteArray} (h : m_s_ActText N p0 = some r) :
  Calls Tryd.prog 16 [.agg [.int .i64 p0.Kind, .string p0.Name, pv0_0, .int .i64 p0.N, .string p0.Undo].toArray].toArray w (Post (.string r) w) := by
 refine enter Tryd.func16 rfl Tryd.ntmps16 rfl (St.start0 hΦ) ?_
 unfold m_s_ActText at h
 refine sr ?_
 refine ln (nb rfl) rfl (fun b_1 => ?_)
 refine la rfl <| en <| sq <| sr <| ld5 Tn_41 0 rfl ?_
 obtain ⟨x1, hx1, h⟩ := bs h
 refine lp (p_call Fun_15 rfl (fun w1 hw => m_s_ActOk_ok hw.fro N p0 ph0_0 hx1)) rfl <| la rfl <| en ?_
 refine cdh rfl h (fun c1 h => ?_) (fun c1 h => ?_)
 ·refine sr <| la rfl <| en ?_
  refine WT.ret Tryd.func16 (resOk.one rfl) (fun w1 hw => ?_)
  cases h
  exact post_of_St hw
 refine WT.skip <| sq <| sr <| lf Fld_41_0 rfl rfl rfl <| lo T1_3 0 rfl <| en <| blk <| sr <| la rfl <| la rfl <| en ?_
 refine cdh rfl h (fun c2 h => ?_) (fun c2 h => ?_)
 ·refine sr <| ld5 Tn_41 0 rfl ?_
  obtain ⟨x2, hx2, h⟩ := bs h
  refine lp (p_call Fun_37 rfl (fun w1 hw => m_s_l8ArgsText_ok hw.fro N p0 ph0_0 hx2)) rfl ?_
  obtain ⟨z1, hz1, h⟩ := bs h
  refine lq (q_cat rfl rfl hz1) rfl <| la rfl <| en ?_
  refine WT.ret Tryd.func16 (resOk.one rfl) (fun w1 hw => ?_)
  cases h
  exact post_of_St hw
 refine sr <| la rfl <| la rfl <| en ?_
 refine cdh rfl h (fun c3 h => ?_) (fun c3 h => ?_)
 ·refine sr <| lf Fld_41_3 rfl rfl rfl <| lo T1_3 0 rfl ?_
  obtain ⟨x3, hx3, h⟩ := bs h
  refine lp (p_call Fun_38 rfl (fun w1 hw => m_s_l2Num_ok N hw.fro p0.N hx3)) rfl ?_
  obtain ⟨z2, hz2, h⟩ := bs h
  refine lq (q_cat rfl rfl hz2) rfl <| la rfl <| en ?_
  refine WT.ret Tryd.func16 (resOk.one rfl) (fun w1 hw => ?_)
  cases h
  exact post_of_St hw
 refine sr <| la rfl <| la rfl <| en ?_
 refine cdh rfl h (fun c4 h => ?_) (fun c4 h => ?_)
 ·refine sq <| WT.draw mixed (by kernel_rfl) (fun _ h => h.drew) <| qq (q_fieldAddr Fld_41_3 rfl) rfl <| qq (q_load1 T1_3 rfl (fun w1 hw => hw.rgO (i := 0) rfl 3 1 [.int .i64 p0.N] rfl)) rfl ?_
  obtain ⟨x4, hx4, h⟩ := bs h
  refine qp (p_call Fun_38 rfl (fun w1 hw => m_s_l2Num_ok N hw.fro p0.N hx4)) rfl ?_
  obtain ⟨z3, hz3, h⟩ := bs h
  refine qq (q_cat rfl rfl hz3) rfl ?_
  obtain ⟨z4, hz4, h⟩ := bs h
  refine qq (q_cat rfl rfl hz4) rfl <| qq (q_loadN Tn_41 rfl (fun w1 hw => hw.rgO (i := 0) rfl 0 5 [.int .i64 p0.Kind, .string p0.Name, pv0_0, .int .i64 p0.N, .string p0.Undo] rfl) rfl) rfl ?_
  obtain ⟨x5, hx5, h⟩ := bs h
  refine qp (p_call Fun_37 rfl (fun w1 hw => m_s_l8ArgsText_ok hw.fro N p0 ph0_0 hx5)) rfl ?_
  obtain ⟨z5, hz5, h⟩ := bs h
  refine qq (q_cat rfl rfl hz5) rfl <| qq (q_assign rfl) rfl <| WQ.nil ?_
  refine WT.ret Tryd.func16 (resOk.one rfl) (fun w1 hw => ?_)
  cases h
  exact post_of_St hw
 refine sr <| la rfl <| la rfl <| en ?_
 refine cdh rfl h (fun c5 h => ?_) (fun c5 h => ?_)
 ·refine sr <| la rfl <| en ?_
  refine WT.ret Tryd.func16 (resOk.one rfl) (fun w1 hw => ?_)
  cases h
  exact post_of_St hw
 refine sr <| la rfl <| la rfl <| en ?_
 refine cdh rfl h (fun c6 h => ?_) (fun c6 h => ?_)
 ·refine sr <| la rfl <| en ?_
  refine WT.ret Tryd.func16 (resOk.one rfl) (fun w1 hw => ?_)
  cases h
  exact post_of_St hw
 refine WT.skip <| ib <| sq <| sr <| lf Fld_41_4 rfl rfl rfl <| lo T1_9 0 rfl <| la rfl <| en ?_
 refine cdh rfl h (fun c7 h => ?_) (fun c7 h => ?_)
 ·refine sr <| ld5 Tn_41 0 rfl ?_
  obtain ⟨x6, hx6, h⟩ := bs h
  refine lp (p_call Fun_37 rfl (fun w1 hw => m_s_l8ArgsText_ok hw.fro N p0 ph0_0 hx6)) rfl ?_
  obtain ⟨z6, hz6, h⟩ := bs h
  refine lq (q_cat rfl rfl hz6) rfl <| la rfl <| en ?_
  refine WT.ret Tryd.func16 (resOk.one rfl) (fun w1 hw => ?_)
  cases h
  exact post_of_St hw
 refine WT.skip <| sq <| WT.draw mixed (by kernel_rfl) (fun _ h => h.drew) <| qq (q_loadN Tn_41 rfl (fun w1 hw => hw.rgO (i := 0) rfl 0 5 [.int .i64 p0.Kind, .string p0.Name, pv0_0, .int .i64 p0.N, .string p0.Undo] rfl) rfl) rfl ?_
 obtain ⟨x7, hx7, h⟩ := bs h
 refine qp (p_call Fun_37 rfl (fun w1 hw => m_s_l8ArgsText_ok hw.fro N p0 ph0_0 hx7)) rfl ?_
 obtain ⟨z7, hz7, h⟩ := bs h
 refine qq (q_cat rfl rfl hz7) rfl ?_
 obtain ⟨z8, hz8, h⟩ := bs h
 refine qq (q_cat rfl rfl hz8) rfl <| qq (q_fieldAddr Fld_41_4 rfl) rfl <| qq (q_load1 T1_9 rfl (fun w1 hw => hw.rgO (i := 0) rfl 4 1 [.string p0.Undo] rfl)) rfl ?_
 obtain ⟨z9, hz9, h⟩ := bs h
 refine qq (q_cat rfl rfl hz9) rfl <| qq (q_assign rfl) rfl <| WQ.nil ?_
 refine WT.ret Tryd.func16 (resOk.one rfl) (fun w1 hw => ?_)
 cases h
 exact post_of_St hw
theorem m_l_szVal_ok {Φ : Hp} {w : World} (hΦ : In Φ w) (N : Nat) (p0 : TVal) (p1 : Int)   {r : Int} (h : m_l_szVal N p0 p1 = some r) :
  Calls Tryd.prog 43 [.agg [.int .i64 p0.K, .int .i64 p0.N, .string p0.S].toArray, .int .i64 p1].toArray w (Post (.int .i64 r) w) := by
 refine enter Tryd.func43 rfl Tryd.ntmps43 rfl (St.start0 hΦ) ?_
 unfold m_l_szVal at h
 refine sr ?_
 refine ln (nb rfl) rfl (fun b_1 => ?_)
 refine la rfl <| en <| sr <| la rfl <| lf Fld_23_2 rfl rfl rfl <| lo T1_9 0 rfl <| lq (q_lenS Str_9 rfl rfl) rfl <| la rfl <| la rfl <| en <| sq <| sr <| la rfl <| la rfl <| en ?_
 refine cdh rfl h (fun c1 h => ?_) (fun c1 h => ?_)
 ·refine sr <| la rfl <| en ?_
  refine WT.ret Tryd.func43 (resOk.one rfl) (fun w1 hw => ?_)
  cases h
  exact post_of_St hw
 refine WT.skip <| sr <| la rfl <| la rfl <| en ?_
 refine WT.ret Tryd.func43 (resOk.one rfl) (fun w1 hw => ?_)
 cases h
 exact post_of_St hw
theorem m_l_szArg_ok {Φ : Hp} {w : World} (hΦ : In Φ w) (N : Nat) (p0 : TArg) (p1 : Int)   {r : Int} (h : m_l_szArg N p0 p1 = some r) :
  Calls Tryd.prog 21 [.agg [.int .i64 p0.K, .string p0.S, .int .i64 p0.V.K, .int .i64 p0.V.N, .string p0.V.S].toArray, .int .i64 p1].toArray w (Post (.int .i64 r) w) := by
 refine enter Tryd.func21 rfl Tryd.ntmps21 rfl (St.start0 hΦ) ?_
 unfold m_l_szArg at h
 refine sr ?_
 refine ln (nb rfl) rfl (fun b_1 => ?_)
 refine la rfl <| en <| sr <| la rfl <| lf Fld_25_1 rfl rfl rfl <| lo T1_9 0 rfl <| lq (q_lenS Str_9 rfl rfl) rfl <| la rfl <| la rfl <| en <| sq <| sr <| la rfl <| la rfl <| en ?_
 refine cdh rfl h (fun c1 h => ?_) (fun c1 h => ?_)
 ·refine sr <| la rfl <| en ?_
  refine WT.ret Tryd.func21 (resOk.one rfl) (fun w1 hw => ?_)
  cases h
  exact post_of_St hw
 refine WT.skip <| sr <| lf Fld_25_2 rfl rfl rfl <| ld3 Tn_23 0 rfl <| la rfl ?_
 obtain ⟨x1, hx1, h⟩ := bs h
 refine lp (p_call Fun_43 rfl (fun w1 hw => m_l_szVal_ok hw.fro N p0.V (IntKind.i64.wrap (p1 - (p0.S.size : Int))) hx1)) rfl <| la rfl <| en <| sq <| sr <| la rfl <| la rfl <| en ?_
 refine cdh rfl h (fun c2 h => ?_) (fun c2 h => ?_)
 ·refine sr <| la rfl <| en ?_
  refine WT.ret Tryd.func21 (resOk.one rfl) (fun w1 hw => ?_)
  cases h
  exact post_of_St hw
 refine WT.skip <| sr <| la rfl <| la rfl <| en ?_
 refine WT.ret Tryd.func21 (resOk.one rfl) (fun w1 hw => ?_)
 cases h
 exact post_of_St hw
theorem m_l_szExpr_ok {Φ : Hp} {w : World} (hΦ : In Φ w) (N : Nat) (p0 : TExpr) (p1 : Int)   {r : Int} (h : m_l_szExpr N p0 p1 = some r) :
  Calls Tryd.prog 6 [.agg [.string p0.Op, .int .i64 p0.L.K, .string p0.L.S, .int .i64 p0.L.V.K, .int .i64 p0.L.V.N, .string p0.L.V.S, .int .i64 p0.R.K, .string p0.R.S, .int .i64 p0.R.V.K, .int .i64 p0.R.V.N, .string p0.R.V.S].toArray, .int .i64 p1].toArray w (Post (.int .i64 r) w) := by
 refine enter Tryd.func6 rfl Tryd.ntmps6 rfl (St.start0 hΦ) ?_
 unfold m_l_szExpr at h
 refine sr ?_
 refine ln (nb rfl) rfl (fun b_1 => ?_)
 refine la rfl <| en <| sr <| la rfl <| lf Fld_27_0 rfl rfl rfl <| lo T1_9 0 rfl <| lq (q_lenS Str_9 rfl rfl) rfl <| la rfl <| la rfl <| en <| sq <| sr <| la rfl <| la rfl <| en ?_
 refine cdh rfl h (fun c1 h => ?_) (fun c1 h => ?_)
 ·refine sr <| la rfl <| en ?_
  refine WT.ret Tryd.func6 (resOk.one rfl) (fun w1 hw => ?_)
  cases h
  exact post_of_St hw
 refine WT.skip <| sr <| lf Fld_27_1 rfl rfl rfl <| ld5 Tn_25 0 rfl <| la rfl ?_
 obtain ⟨x1, hx1, h⟩ := bs h
 refine lp (p_call Fun_21 rfl (fun w1 hw => m_l_szArg_ok hw.fro N p0.L (IntKind.i64.wrap (p1 - (p0.Op.size : Int))) hx1)) rfl <| la rfl <| en <| sq <| sr <| la rfl <| la rfl <| en ?_
 refine cdh rfl h (fun c2 h => ?_) (fun c2 h => ?_)
 ·refine sr <| la rfl <| en ?_
  refine WT.ret Tryd.func6 (resOk.one rfl) (fun w1 hw => ?_)
  cases h
  exact post_of_St hw
 refine WT.skip <| sr <| lf Fld_27_2 rfl rfl rfl <| ld5 Tn_25 0 rfl <| la rfl ?_
 obtain ⟨x2, hx2, h⟩ := bs h
 refine lp (p_call Fun_21 rfl (fun w1 hw => m_l_szArg_ok hw.fro N p0.R x1 hx2)) rfl <| la rfl <| en <| sq <| sr <| la rfl <| la rfl <| en ?_
 refine cdh rfl h (fun c3 h => ?_) (fun c3 h => ?_)
 ·refine sr <| la rfl <| en ?_
  refine WT.ret Tryd.func6 (resOk.one rfl) (fun w1 hw => ?_)
  cases h
  exact post_of_St hw
 refine WT.skip <| sr <| la rfl <| la rfl <| en ?_
 refine WT.ret Tryd.func6 (resOk.one rfl) (fun w1 hw => ?_)
 cases h
 exact post_of_St hw
theorem m_l_szExprS_ok {Φ : Hp} {w : World} (hΦ : In Φ w) (N : Nat) (p0 : (List TExpr)) (p1 : Int) {pv0 : Value} {pG0 : List Nat} (ph0 : RSl RTExpr 11 Φ pG0 pv0 p0) {r : Int} (h : m_l_szExprS N p0 p1 = some r) :
  Calls Tryd.prog 40 [pv0, .int .i64 p1].toArray w (Post (.int .i64 r) w) := by
 refine enter Tryd.func40 rfl Tryd.ntmps40 rfl (St.start0 hΦ) ?_
 generalize hb0 : (⟨w, [], Φ⟩ : Base) = w0
 unfold m_l_szExprS at h
 refine sr <| la rfl <| en <| sr <| la rfl <| la rfl <| lq (q_lenR Sl_47 rfl rfl ph0) rfl <| la rfl <| la rfl <| en <| sq <| sr <| la rfl <| la rfl <| en ?_
 refine cdh rfl h (fun c1 h => ?_) (fun c1 h => ?_)
 ·refine sr <| la rfl <| en ?_
  refine WT.ret Tryd.func40 (resOk.one rfl) (fun w1 hw => ?_)
  subst hb0
  cases h
  exact post_of_St hw
 refine WT.skip <| sq <| sr <| la rfl <| en <| blk ?_
 refine loop_in (σ := Int × Int) (fun s => [(0, pv0), (1, .int .i64 s.1), (5, .int .i64 s.2)]) (fun s => St w0 Φ [] []) (fun m s => m_l_szExprS_l1 N p0 m s.1 s.2 = some r) (IntKind.i64.wrap (p1 - (p0.length : Int)), 0) N h ⟨rfl, rfl, rfl, trivial⟩ (fun w1 hw => (hw.sel (js := []) rfl).selO (js := []) rfl) (fun s hm => none_ne hm) (fun n1 ih1 s hm => ?_)
 obtain ⟨s1, s2⟩ := s
 have h : m_l_szExprS_l1 N p0 (n1 + 1) s1 s2 = some r := hm
 show WT _ _ [(0, pv0), (1, .int .i64 s1), (5, .int .i64 s2)] (St w0 Φ [] [])
 unfold m_l_szExprS_l1 at h
 refine sq <| sr <| la rfl <| la rfl <| lq (q_lenR Sl_47 rfl rfl ph0) rfl <| la rfl <| en ?_
 refine cdh rfl h (fun c2 h => ?_) (fun c2 h => ?_)
 ·refine WT.skip <| sq <| blk <| sr <| la rfl <| la rfl ?_
  obtain ⟨x1, hx1, h⟩ := bs h
  obtain ⟨cs1, F1, -, g1, hb1, hs1, r1⟩ := ph0.el (idx_some hx1).2.2
  obtain ⟨rfl, -⟩ := r1
  refine lq (q_indexAddr Sl_47 rfl rfl ph0 hx1) rfl <| lg11 0 Tn_27 g1 rfl rfl <| la rfl ?_
  obtain ⟨x2, hx2, h⟩ := bs h
  refine lp (p_call Fun_6 rfl (fun w1 hw => m_l_szExpr_ok hw.fro N x1 s1 hx2)) rfl <| la rfl <| en <| sr <| la rfl <| la rfl <| en ?_
  refine cdh rfl h (fun c3 h => ?_) (fun c3 h => ?_)
  ·refine sr <| la rfl <| en ?_
   refine WT.ret Tryd.func40 (resOk.one rfl) (fun w1 hw => ?_)
   subst hb0
   cases h
   exact post_of_St hw
  refine WT.skip <| ib <| rgn <| la rfl <| la rfl <| la rfl <| en ?_
  exact lback (ih1 (x2, IntKind.i64.wrap (s2 + 1)) h) ⟨rfl, rfl, rfl, trivial⟩ (fun w1 hw => (hw.sel (js := []) rfl).selO (js := []) rfl)
 refine xt rfl <| sr <| la rfl <| la rfl <| en ?_
 refine WT.ret Tryd.func40 (resOk.one rfl) (fun w1 hw => ?_)
 subst hb0
 cases h
 exact post_of_St hw
theorem m_l_szAct_ok {Φ : Hp} {w : World} (hΦ : In Φ w) (N : Nat) (p0 : TAct) (p1 : Int) {pv0_0 : Value} {pG0_0 : List Nat} (ph0_0 : RSl RTExpr 11 Φ pG0_0 pv0_0 p0.Args) {r : Int} (h : m_l_szAct N p0 p1 = some r) :
  Calls Tryd.prog 18 [.agg [.int .i64 p0.Kind, .string p0.Name, pv0_0, .int .i64 p0.N, .string p0.Undo].toArray, .int .i64 p1].toArray w (Post (.int .i64 r) w) := by
 refine enter Tryd.func18 rfl Tryd.ntmps18 rfl (St.start0 hΦ) ?_
 unfold m_l_szAct at h
 refine sr ?_
 refine ln (nb rfl) rfl (fun b_1 => ?_)
 refine la rfl <| en <| sr <| la rfl <| lf Fld_49_1 rfl rfl rfl <| lo T1_9 0 rfl <| lq (q_lenS Str_9 rfl rfl) rfl <| la rfl <| la rfl <| en <| sq <| sr <| la rfl <| la rfl <| en ?_
 refine cdh rfl h (fun c1 h => ?_) (fun c1 h => ?_)
 ·refine sr <| la rfl <| en ?_
  refine WT.ret Tryd.func18 (resOk.one rfl) (fun w1 hw => ?_)
  cases h
  exact post_of_St hw
 refine WT.skip <| sr <| lf Fld_49_2 rfl rfl rfl <| lo T1_47 0 rfl <| la rfl ?_
 obtain ⟨x1, hx1, h⟩ := bs h
 refine lp (p_call Fun_40 rfl (fun w1 hw => m_l_szExprS_ok hw.fro N p0.Args (IntKind.i64.wrap (p1 - (p0.Name.size : Int))) ph0_0 hx1)) rfl <| la rfl <| en <| sq <| sr <| la rfl <| la rfl <| en ?_
 refine cdh rfl h (fun c2 h => ?_) (fun c2 h => ?_)
 ·refine sr <| la rfl <| en ?_
  refine WT.ret Tryd.func18 (resOk.one rfl) (fun w1 hw => ?_)
  cases h
  exact post_of_St hw
 refine WT.skip <| sr <| la rfl <| lf Fld_49_4 rfl rfl rfl <| lo T1_9 0 rfl <| lq (q_lenS Str_9 rfl rfl) rfl <| la rfl <| la rfl <| en <| sq <| sr <| la rfl <| la rfl <| en ?_
 refine cdh rfl h (fun c3 h => ?_) (fun c3 h => ?_)
 ·refine sr <| la rfl <| en ?_
  refine WT.ret Tryd.func18 (resOk.one rfl) (fun w1 hw => ?_)
  cases h
  exact post_of_St hw
 refine WT.skip <| sr <| la rfl <| la rfl <| en ?_
 refine WT.ret Tryd.func18 (resOk.one rfl) (fun w1 hw => ?_)
 cases h
 exact post_of_St hw
theorem m_l_toVal_ok {Φ : Hp} {w : World} (hΦ : In Φ w) (N : Nat) (p0 : TVal)   {r : TVal} (h : m_l_toVal N p0 = some r) :
  Calls Tryd.prog 45 [.agg [.int .i64 p0.K, .int .i64 p0.N, .string p0.S].toArray].toArray w (Post (.agg [.int .i64 r.K, .int .i64 r.N, .string r.S].toArray) w) := by
 refine enter Tryd.func45 rfl Tryd.ntmps45 rfl (St.start0 hΦ) ?_
 unfold m_l_toVal at h
 refine sr ?_
 refine ln (nb rfl) rfl (fun b_1 => ?_)
 refine ln (nz Zr_30) rfl (fun b_2 => ?_)
 refine en <| sr ?_
 refine ln (nz Zr_30) rfl (fun b_3 => ?_)
 refine en <| sr <| lf Fld_23_0 rfl rfl rfl <| lo T1_3 2 rfl <| lf Fld_30_0 rfl rfl rfl <| so1 0 Sz_3 rfl rfl ?_
 refine en <| sr <| lf Fld_23_1 rfl rfl rfl <| lo T1_3 2 rfl <| lf Fld_30_1 rfl rfl rfl <| so1 0 Sz_3 rfl rfl ?_
 refine en <| sr <| lf Fld_23_2 rfl rfl rfl <| lo T1_9 2 rfl <| lf Fld_30_2 rfl rfl rfl <| so1 0 Sz_9 rfl rfl ?_
 refine en <| sr <| ld3 Tn_30 0 rfl <| soN 1 Sz_30 rfl ⟨rfl, rfl, rfl, trivial⟩ rfl ?_
 refine en ?_
 refine WT.ret Tryd.func45 (resOk.one (rv_cell Tn_30 rfl (fun w1 hw => hw.rgO (i := 1) rfl 0 3 [.int .i64 p0.K, .int .i64 p0.N, .string p0.S] rfl) rfl)) (fun w1 hw => ?_)
 cases h
 exact post_of_St hw
theorem m_l_toArg_ok {Φ : Hp} {w : World} (hΦ : In Φ w) (N : Nat) (p0 : TArg)   {r : TArg} (h : m_l_toArg N p0 = some r) :
  Calls Tryd.prog 23 [.agg [.int .i64 p0.K, .string p0.S, .int .i64 p0.V.K, .int .i64 p0.V.N, .string p0.V.S].toArray].toArray w (Post (.agg [.int .i64 r.K, .string r.S, .int .i64 r.V.K, .int .i64 r.V.N, .string r.V.S].toArray) w) := by
 refine enter Tryd.func23 rfl Tryd.ntmps23 rfl (St.start0 hΦ) ?_
 unfold m_l_toArg at h
 refine sr ?_
 refine ln (nb rfl) rfl (fun b_1 => ?_)
 refine ln (nz Zr_32) rfl (fun b_2 => ?_)
 refine en <| sr ?_
 refine ln (nz Zr_32) rfl (fun b_3 => ?_)
 refine en <| sr <| lf Fld_25_0 rfl rfl rfl <| lo T1_3 2 rfl <| lf Fld_32_0 rfl rfl rfl <| so1 0 Sz_3 rfl rfl ?_
 refine en <| sr <| lf Fld_25_1 rfl rfl rfl <| lo T1_9 2 rfl <| lf Fld_32_1 rfl rfl rfl <| so1 0 Sz_9 rfl rfl ?_
 refine en <| sr <| lf Fld_25_2 rfl rfl rfl <| ld3 Tn_23 2 rfl ?_
 obtain ⟨x1, hx1, h⟩ := bs h
 refine lp (p_call Fun_45 rfl (fun w1 hw => m_l_toVal_ok hw.fro N p0.V hx1)) rfl <| lf Fld_32_2 rfl rfl rfl <| soN 0 Sz_30 rfl ⟨rfl, rfl, rfl, trivial⟩ rfl ?_
 refine en <| sr <| ld5 Tn_32 0 rfl <| soN 1 Sz_32 rfl ⟨rfl, rfl, rfl, rfl, rfl, trivial⟩ rfl ?_
 refine en ?_
 refine WT.ret Tryd.func23 (resOk.one (rv_cell Tn_32 rfl (fun w1 hw => hw.rgO (i := 1) rfl 0 5 [.int .i64 p0.K, .string p0.S, .int .i64 x1.K, .int .i64 x1.N, .string x1.S] rfl) rfl)) (fun w1 hw => ?_)
 cases h
 exact post_of_St hw
end Go.Proofs.YtlfpehhlkccdiaaDoor
