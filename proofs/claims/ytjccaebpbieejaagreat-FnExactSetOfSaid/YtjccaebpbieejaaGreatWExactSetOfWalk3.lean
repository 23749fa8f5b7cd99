/- Printed by a program of ours: each Go function computes its Lean function. -/
import Derived.Test.YtjccaebpbieejaaGreatProg
import Derived.Test.YtjccaebpbieejaaGreatWExactSetOfWalk2
namespace Go.Proofs.YtjccaebpbieejaaGreat
open Eng Tryz
open Go.RowKit (Below)
set_option linter.unusedVariables false
set_option linter.unusedSimpArgs false

set_option maxRecDepth 100000
set_option maxHeartbeats 1000000
variable {Ψ Φ : Hp} {pv0 pv1_0 pv2 pv0_0 pv0_1 pv0_2 pv1 pv1_1 pv2_0 : Value} {pG0 pG1_0 pG2 pG0_0 pG0_1 pG0_2 pG1 pD0 pG1_1 pG2_0 : List Nat} (N : Nat)
theorem m_i_bindsOf_ok (w0 : Base Ψ Φ []) (p0 : (List TPat)) (p1 : TStore) (p2 : (List Int)) (ph0 : RSl RTPat 3 Ψ pG0 pv0 p0) (ph1_0 : RSl RTItem 3 Ψ pG1_0 pv1_0 p1.Items) (ph2 : RSl (RI .i64) 1 Ψ pG2 pv2 p2) {r : (List TBind) × Bool} (h : m_i_bindsOf N p0 p1 p2 = some r) :
  Calls prog 65 [pv0, .agg [pv1_0, iV p1.Next].toArray, pv2].toArray w0.w (PostG Φ w0.w [] (fun Φ' Fs v => ∃ (sr_0_0 : Value), v = .tuple #[sr_0_0, .bool r.2] ∧ Fs = [ob sr_0_0] ∧ OSl RTBind 164 4 Φ' [] sr_0_0 r.1)) := by
 refine eN func65 rfl ntmps65 rfl w0 fun hF => ?_
 unfold m_i_bindsOf at h
 refine sr <| lbx rfl fun b_1 => arr 11 [] rfl <| lnr ph2 rfl <| art 3 [] rfl <| wtS ?_
 have k1 := OSl.nil RTBind 164 4 Φ
 refine lin (σ := Hp × (List TBind) × Value × Int) (fun s => [(0, pv0), (4, pQ b_1), (8, s.2.2.1), (13, pv2), (14, iV (p2.length : Int)), (15, iV s.2.2.2)]) (fun s => St w0 s.1 [(b_1, .cells #[pv1_0, iV p1.Next] 48 (0, 0))] [ob s.2.2.1]) (fun m s => m_i_bindsOf_l1 N p0 p1 p2 m s.2.1 s.2.2.2 = some r ∧ (OSl RTBind 164 4 s.1 [] s.2.2.1 s.2.1)) (Φ, ([] : List TBind), (.slice none 0 0), 0) N ⟨h, k1⟩ (sx [0] [0]) (fun n1 ih1 s hm => ?_)
 obtain ⟨Φ_1, s1, u1, s2⟩ := s
 obtain ⟨h, k2⟩ := hm
 dsimp only at h k2 ⊢
 unfold m_i_bindsOf_l1 at h
 refine att 5 [] rfl ?_
 refine ch h rfl ?_ ?_ <;> intro h
 ·refine atr 6 [] rfl ?_
  obtain ⟨x1, hx1, h⟩ := bs h
  obtain ⟨cs1, F1, -, g1, hb1, hs1, r1⟩ := ph2.el (idx_some hx1).2.2
  obtain ⟨rfl, -⟩ := r1
  refine lia ph2 hx1 rfl <| lhx 0 0 g1 rfl <| arr 7 [2] rfl <| kab h rfl rfl rfl (fun b z q => m_i_FactOf_ok N b p1 x1 (ph1_0.y z) q) ?_
  rintro x2 h v1 Φ_2 F2 ⟨ap1, fr1, v2, rfl, rfl, h1⟩
  replace k2 := k2.fr fr1 (ap1.q 0 rfl) dN
  refine arr 3 [] rfl <| lnz Zr_127 rfl fun b_2 => soN 0 Sz_127 rfl ⟨rfl, h1.one, trivial⟩ rfl ?_
  refine art 8 [] rfl ?_
  refine ch h rfl ?_ ?_ <;> intro h
  ·refine att 5 [] rfl ?_
   refine WT.ret hF (resOk.two rfl rfl) (fun w1 hw => ?_)
   cases h
   replace hw := hw.addNil
   refine postG_of_St (js := [0]) hw rfl ⟨.slice none 0 0, rfl, rfl, OSl.nil _ _ _ _⟩
  refine att 2 [] rfl <| wm [0, 1] [] rfl <| amm 2 [0, 1] [0, 1] rfl rfl ?_
  obtain ⟨x3, hx3, h⟩ := bs h
  obtain ⟨cs2, F3, -, g2, hb2, hs2, r2⟩ := ph0.el (idx_some hx3).2.2
  obtain ⟨v3, G1, rfl, hq1, h2⟩ := r2
  obtain rfl := hq1.symm
  refine mq 2 rfl (by kernel_rfl) (kN [0, 1]) (q_indexAddr Sl_72 rfl rfl ph0 hx3) rfl <| mq 3 rfl (by kernel_rfl) (kN [0, 1]) (q_loadN Tn_124 rfl (fun w1 hw => (g2.of_eq 0 3 rfl rfl : rg _ _ _ [.string x3.Kind, v3, .bool x3.Not]).rangeAt hw.1) rfl) rfl <| amm 2 [4, 2, 5] [0, 1] rfl rfl ?_
  obtain ⟨x4, hx4, h⟩ := bs h
  refine WM.one 6 (by kernel_rfl) (mc rfl (fun _ v Φx D w1 hq hw => Kn.of Kf.nil (ai2 0 1 rfl rfl) hw) (k_call (js := []) (R := [ob v2, ob u1]) Fun_100 rfl rfl (fun w1 hw ap hl => m_i_MatchPat_ok N (ba hw.fro) x3 x2.1 s1 (h2.y hw.up) h1.rsl k2.rsl  hx4)) rfl ?_)
  rintro v4 Φ_3 F4 ⟨ap2, fr2, v5, rfl, rfl, h3⟩
  replace k2 := k2.fr fr2 (ap2.q 1 rfl) dN
  refine amm 5 [7, 8, 9, 10, 11] [0, 1] rfl rfl <| WM.nil (by kernel_rfl) <| att 5 [] rfl ?_
  refine ch h rfl ?_ ?_ <;> intro h
  ·refine att 5 [] rfl ?_
   refine WT.ret hF (resOk.two rfl rfl) (fun w1 hw => ?_)
   cases h
   replace hw := hw.addNil
   refine postG_of_St (js := [0]) hw rfl ⟨.slice none 0 0, rfl, rfl, OSl.nil _ _ _ _⟩
  refine att 6 [] rfl ?_
  exact lb [0] [1] (ih1 (_, _, _, _) ⟨h, h3⟩)
 refine att 7 [] rfl ?_
 exact rtg [0] hF (resOk.two rfl rfl) rfl (by cases h; exact fun w1 hw => ⟨u1, rfl, rfl, k2⟩)
theorem m_i_BindsFor_ok (w0 : Base Ψ Φ []) (p0 : TRule) (p1 : TStore) (p2 : (List Int)) (ph0_0 : RSl RTPat 3 Ψ pG0_0 pv0_0 p0.Pats) (ph0_1 : RSl RTCond 11 Ψ pG0_1 pv0_1 p0.Conds) (ph0_2 : RSl RTAct 5 Ψ pG0_2 pv0_2 p0.Acts) (ph1_0 : RSl RTItem 3 Ψ pG1_0 pv1_0 p1.Items) (ph2 : RSl (RI .i64) 1 Ψ pG2 pv2 p2) {r : (List TBind) × Bool} (h : m_i_BindsFor N p0 p1 p2 = some r) :
  Calls prog 33 [.agg [.string p0.Name, iV p0.Sal, pv0_0, pv0_1, pv0_2].toArray, .agg [pv1_0, iV p1.Next].toArray, pv2].toArray w0.w (PostG Φ w0.w [] (fun Φ' Fs v => ∃ (sr_0_0 : Value), v = .tuple #[sr_0_0, .bool r.2] ∧ Fs = [ob sr_0_0] ∧ OSl RTBind 164 4 Φ' [] sr_0_0 r.1)) := by
 refine eN func33 rfl ntmps33 rfl w0 fun hF => ?_
 unfold m_i_BindsFor at h
 refine sr <| lbx rfl fun b_1 => lbx rfl fun b_2 => arr 6 [37] rfl <| kab h rfl rfl rfl (fun b z q => m_i_pats_ok N b p0 false (ph0_0.y z) (ph0_1.y z) (ph0_2.y z) q) ?_
 rintro x1 h v1 Φ_1 F1 ⟨ap1, fr1, v2, D1, rfl, rfl, h1, i1⟩
 refine arr 6 [] rfl <| lnr ph2 rfl <| la rfl <| lno h1 rfl <| la rfl <| en ?_
 refine ch h rfl ?_ ?_ <;> intro h
 ·refine att 5 [] rfl ?_
  refine WT.ret hF (resOk.two rfl rfl) (fun w1 hw => ?_)
  cases h
  replace hw := hw.addNil
  refine postG_of_St (js := [0]) hw rfl ⟨.slice none 0 0, rfl, rfl, OSl.nil _ _ _ _⟩
 refine atr 6 [2] rfl <| kab h rfl rfl rfl (fun b z q => m_i_bindsOf_ok N b x1 p1 p2 h1.rsl (ph1_0.y z) (ph2.y z) q) ?_
 rintro x2 h v3 Φ_2 F2 ⟨ap2, fr2, v4, rfl, rfl, h2⟩
 refine art 5 [] rfl ?_
 exact rtg [0] hF (resOk.two rfl rfl) rfl (by cases h; exact fun w1 hw => ⟨v4, rfl, rfl, h2⟩)
theorem m_i_isFree_ok (w0 : Base Ψ Φ []) (p0 : TTok) (ph0_0 : RSl (RI .i64) 1 Ψ pG0_0 pv0_0 p0.Ids) (ph0_1 : RSl (RI .i64) 1 Ψ pG0_1 pv0_1 p0.Hits) {r : Bool} (h : m_i_isFree N p0 = some r) :
  CB w0 prog 34 [.agg [pv0_0, pv0_1].toArray] (.bool r) := by
 refine eN func34 rfl ntmps34 rfl w0 fun hF => ?_
 unfold m_i_isFree at h
 refine sr <| lbx rfl fun b_1 => arr 7 [1, 0] rfl <| lnr ph0_1 rfl <| art 3 [] rfl ?_
 refine lin (σ := Int) (fun s => [(6, pv0_1), (7, iV (p0.Hits.length : Int)), (8, iV s)]) (fun s => St w0 Φ [] []) (fun m s => m_i_isFree_l1 N p0 m s = some r) (0) N h (sx [] []) (fun n1 ih1 s hm => ?_)
 revert hm; revert s; intro s1 hm
 have h : m_i_isFree_l1 N p0 (n1 + 1) s1 = some r := hm
 show WT _ _ [(6, pv0_1), (7, iV (p0.Hits.length : Int)), (8, iV s1)] (St w0 Φ [] [])
 unfold m_i_isFree_l1 at h
 refine att 5 [] rfl ?_
 refine ch h rfl ?_ ?_ <;> intro h
 ·refine atr 5 [] rfl ?_
  obtain ⟨x1, hx1, h⟩ := bs h
  obtain ⟨cs1, F1, -, g1, hb1, hs1, r1⟩ := ph0_1.el (idx_some hx1).2.2
  obtain ⟨rfl, -⟩ := r1
  refine lia ph0_1 hx1 rfl <| lhx 0 0 g1 rfl <| art 7 [] rfl ?_
  refine ch h rfl ?_ ?_ <;> intro h
  ·refine att 4 [] rfl ?_
   exact rt hF h
  refine att 6 [] rfl ?_
  exact lb [] [] (ih1 _ h)
 refine att 5 [] rfl ?_
 exact rt hF h
theorem m_i_ArgVal_ok (w0 : Base Ψ Φ []) (p0 : TArg) (p1 : (List TBind)) (ph1 : RSl RTBind 4 Ψ pG1 pv1 p1) {r : TVal × Bool} (h : m_i_ArgVal N p0 p1 = some r) :
  CB w0 prog 101 [.agg [iV p0.K, .string p0.S, iV p0.V.K, iV p0.V.N, .string p0.V.S].toArray, pv1] (.tuple #[.agg [iV r.1.K, iV r.1.N, .string r.1.S].toArray, .bool r.2]) := by
 refine eN func101 rfl ntmps101 rfl w0 fun hF => ?_
 unfold m_i_ArgVal at h
 refine sr <| lbx rfl fun b_1 => lnz Zr_133 rfl fun b_2 => art 14 [0, 32] rfl ?_
 refine ch h rfl ?_ ?_ <;> intro h
 ·refine atr 4 [2, 35] rfl <| soN 0 Sz_133 rfl ⟨rfl, rfl, rfl, trivial⟩ rfl ?_
  refine la rfl <| en ?_
  refine WT.ret hF (resOk.two (rv_cell Tn_133 rfl (fun w1 hw => hw.rgO (i := 0) rfl 0 3 [iV p0.V.K, iV p0.V.N, .string p0.V.S] rfl) rfl) rfl) (fun w1 hw => ?_)
  cases h
  exact post_of_St hw
 refine att 5 [] rfl ?_
 refine ch h rfl ?_ ?_ <;> intro h
 ·refine atr 5 [1, 32] rfl <| qd h (m_i_BindOf_ok N · p1 p0.S ph1 ·) rfl rfl rfl fun x1 h => arr 2 [] rfl <| soN 0 Sz_133 rfl ⟨rfl, rfl, rfl, trivial⟩ rfl ?_
  refine la rfl <| en ?_
  refine WT.ret hF (resOk.two (rv_cell Tn_133 rfl (fun w1 hw => hw.rgO (i := 0) rfl 0 3 [iV x1.1.K, iV x1.1.N, .string x1.1.S] rfl) rfl) rfl) (fun w1 hw => ?_)
  cases h
  exact post_of_St hw
 refine atr 4 [] rfl <| lq (q_build (vs := []) (C := #[iV 0, iV 0, .string (⟨#[]⟩ : ByteArray)]) Pl_133 Zr_133 rfl (fill_nil)) rfl <| soN 0 Sz_133 rfl ⟨rfl, rfl, rfl, trivial⟩ rfl ?_
 refine la rfl <| en ?_
 refine WT.ret hF (resOk.two (rv_cell Tn_133 rfl (fun w1 hw => hw.rgO (i := 0) rfl 0 3 [iV 0, iV 0, .string (⟨#[]⟩ : ByteArray)] rfl) rfl) rfl) (fun w1 hw => ?_)
 cases h
 exact post_of_St hw
theorem m_cmp_Or_int_ok (w0 : Base Ψ Φ []) (p0 : (List Int)) (ph0 : RSl (RI .i64) 1 Ψ pG0 pv0 p0) {r : Int} (h : m_cmp_Or_int N p0 = some r) :
  CB w0 prog 68 [pv0] (iV r) := by
 refine eN func68 rfl ntmps68 rfl w0 fun hF => ?_
 unfold m_cmp_Or_int at h
 refine atr 12 [] rfl <| lnr ph0 rfl <| art 3 [] rfl ?_
 refine lin (σ := Int) (fun s => [(3, iV 0), (6, pv0), (7, iV (p0.length : Int)), (8, iV s)]) (fun s => St w0 Φ [] []) (fun m s => m_cmp_Or_int_l1 N p0 m s = some r) (0) N h (sx [] []) (fun n1 ih1 s hm => ?_)
 revert hm; revert s; intro s1 hm
 have h : m_cmp_Or_int_l1 N p0 (n1 + 1) s1 = some r := hm
 show WT _ _ [(3, iV 0), (6, pv0), (7, iV (p0.length : Int)), (8, iV s1)] (St w0 Φ [] [])
 unfold m_cmp_Or_int_l1 at h
 refine att 5 [] rfl ?_
 refine ch h rfl ?_ ?_ <;> intro h
 ·refine atr 5 [] rfl ?_
  obtain ⟨x1, hx1, h⟩ := bs h
  obtain ⟨cs1, F1, -, g1, hb1, hs1, r1⟩ := ph0.el (idx_some hx1).2.2
  obtain ⟨rfl, -⟩ := r1
  refine lia ph0 hx1 rfl <| lhx 0 0 g1 rfl <| art 8 [] rfl ?_
  refine ch h rfl ?_ ?_ <;> intro h
  ·refine att 5 [] rfl ?_
   exact rt hF h
  refine att 6 [] rfl ?_
  exact lb [] [] (ih1 _ h)
 refine att 6 [] rfl ?_
 exact rt hF h
theorem m_cmp_isNaN_int_ok  (w0 : Base Ψ Φ []) (p0 : Int)  {r : Bool} (h : m_cmp_isNaN_int N p0 = some r) :
  CB w0 prog 105 [iV p0] (.bool r) := by
 refine eN func105 rfl ntmps105 rfl w0 fun hF => ?_
 unfold m_cmp_isNaN_int at h
 refine att 11 [] rfl ?_
 exact rt hF h
theorem m_cmp_Compare_int_ok  (w0 : Base Ψ Φ []) (p0 : Int) (p1 : Int)  {r : Int} (h : m_cmp_Compare_int N p0 p1 = some r) :
  CB w0 prog 69 [iV p0, iV p1] (iV r) := by
 refine eN func69 rfl ntmps69 rfl w0 fun hF => ?_
 unfold m_cmp_Compare_int at h
 refine atr 7 [] rfl <| qc h (m_cmp_isNaN_int_ok N · p0 ·) rfl rfl rfl fun x1 h => arr 5 [] rfl <| qc h (m_cmp_isNaN_int_ok N · p1 ·) rfl rfl rfl fun x2 h => art 7 [] rfl ?_
 refine ch h rfl ?_ ?_ <;> intro h
 ·refine att 5 [] rfl ?_
  refine ch h rfl ?_ ?_ <;> intro h
  ·refine att 4 [] rfl ?_
   exact rt hF h
  refine att 5 [] rfl ?_
  exact rt hF h
 refine att 6 [] rfl ?_
 refine ch h rfl ?_ ?_ <;> intro h
 ·refine att 4 [] rfl ?_
  exact rt hF h
 refine att 8 [] rfl ?_
 refine ch h rfl ?_ ?_ <;> intro h
 ·refine att 4 [] rfl ?_
  exact rt hF h
 refine att 8 [] rfl ?_
 refine ch h rfl ?_ ?_ <;> intro h
 ·refine att 4 [] rfl ?_
  exact rt hF h
 refine att 5 [] rfl ?_
 exact rt hF h
theorem m_cmp_isNaN_string_ok  (w0 : Base Ψ Φ []) (p0 : ByteArray)  {r : Bool} (h : m_cmp_isNaN_string N p0 = some r) :
  CB w0 prog 157 [.string p0] (.bool r) := by
 refine eN func157 rfl ntmps157 rfl w0 fun hF => ?_
 unfold m_cmp_isNaN_string at h
 refine att 11 [] rfl ?_
 exact rt hF h
theorem m_cmp_Compare_string_ok  (w0 : Base Ψ Φ []) (p0 : ByteArray) (p1 : ByteArray)  {r : Int} (h : m_cmp_Compare_string N p0 p1 = some r) :
  CB w0 prog 147 [.string p0, .string p1] (iV r) := by
 refine eN func147 rfl ntmps147 rfl w0 fun hF => ?_
 unfold m_cmp_Compare_string at h
 refine atr 7 [] rfl <| qc h (m_cmp_isNaN_string_ok N · p0 ·) rfl rfl rfl fun x1 h => arr 5 [] rfl <| qc h (m_cmp_isNaN_string_ok N · p1 ·) rfl rfl rfl fun x2 h => art 7 [] rfl ?_
 refine ch h rfl ?_ ?_ <;> intro h
 ·refine att 5 [] rfl ?_
  refine ch h rfl ?_ ?_ <;> intro h
  ·refine att 4 [] rfl ?_
   exact rt hF h
  refine att 5 [] rfl ?_
  exact rt hF h
 refine att 6 [] rfl ?_
 refine ch h rfl ?_ ?_ <;> intro h
 ·refine att 4 [] rfl ?_
  exact rt hF h
 refine atr 6 [] rfl <| lq (q_slt rfl rfl) rfl <| en ?_
 refine ch h rfl ?_ ?_ <;> intro h
 ·refine att 4 [] rfl ?_
  exact rt hF h
 refine atr 6 [] rfl <| lq (q_sgt rfl rfl) rfl <| en ?_
 refine ch h rfl ?_ ?_ <;> intro h
 ·refine att 4 [] rfl ?_
  exact rt hF h
 refine att 5 [] rfl ?_
 exact rt hF h
theorem m_i_compareVals_ok  (w0 : Base Ψ Φ []) (p0 : TVal) (p1 : TVal)  {r : Int} (h : m_i_compareVals N p0 p1 = some r) :
  CB w0 prog 128 [.agg [iV p0.K, iV p0.N, .string p0.S].toArray, .agg [iV p1.K, iV p1.N, .string p1.S].toArray] (iV r) := by
 refine eN func128 rfl ntmps128 rfl w0 fun hF => ?_
 unfold m_i_compareVals at h
 refine sr <| lbx rfl fun b_1 => lbx rfl fun b_2 => art 3 [] rfl <| wm [0, 1] [] rfl <| amm 12 [0, 0, 1, 32, 2, 0, 3, 0, 5, 1, 6, 32, 7, 1, 8, 0, 10, 2, 11, 32, 12, 2, 13, 0] [0, 1] rfl rfl ?_
 obtain ⟨x1, hx1, h⟩ := bs h
 refine on1 4 (mp rfl (kS [0, 1]) (pcP rfl (m_cmp_Compare_int_ok N · p0.K p1.K hx1)) rfl ?_)
 obtain ⟨x2, hx2, h⟩ := bs h
 refine on1 9 (mp rfl (kS [0, 1]) (pcP rfl (m_cmp_Compare_int_ok N · p0.N p1.N hx2)) rfl ?_)
 obtain ⟨x3, hx3, h⟩ := bs h
 refine on1 14 (mp rfl (kS [0, 1]) (pcP rfl (m_cmp_Compare_string_ok N · p0.S p1.S hx3)) rfl ?_)
 have rc1 : RC (RI .i64) 1 Φ ([[], [], []] : List (List Nat)) [iV x1, iV x2, iV x3] ([x1, x2, x3] : List Int) := RC.cons (c := [iV x1]) (cells := [iV x2, iV x3]) ⟨rfl, rfl⟩ rfl (RC.cons (c := [iV x2]) (cells := [iV x3]) ⟨rfl, rfl⟩ rfl (RC.cons (c := [iV x3]) (cells := []) ⟨rfl, rfl⟩ rfl (RC.nil _ _ _)))
 refine WM.one 15 (by kernel_rfl) (me rfl (fun _ v Φx D w1 hq hw => Kn.of Kf.nil (ai2 0 1 rfl rfl) hw) (e_lit (vs := [(0, iV x1), (1, iV x2), (2, iV x3)]) (C := #[iV x1, iV x2, iV x3]) RI.lasts Sl_77 Zr_3 rfl rfl rfl rfl (fill_made MC_3_3 (fill_cons (C' := [iV x1, iV 0, iV 0]) rfl rfl rfl rfl rfl (fill_cons (C' := [iV x1, iV x2, iV 0]) rfl rfl rfl rfl rfl (fill_cons (C' := [iV x1, iV x2, iV x3]) rfl rfl rfl rfl rfl (fill_nil))))) rfl rc1 rfl (by simpa using Kw.nil)) rfl ?_)
 rintro v1 Φ_1 D1 ⟨fr1, h1⟩
 replace h1 : OSl (RI .i64) 3 1 Φ_1 [] v1 ([x1, x2, x3] : List Int) := by simpa using h1
 obtain ⟨x4, hx4, h⟩ := bs h
 refine on1 16 (mp rfl (kS [0, 1]) (pcP rfl (m_cmp_Or_int_ok N · ([x1, x2, x3] : List Int) h1.rsl hx4)) rfl ?_)
 refine amm 1 [17] [0, 1] rfl rfl <| WM.nil (by kernel_rfl) ?_
 exact rt hF h
theorem m_i_LessVal_ok  (w0 : Base Ψ Φ []) (p0 : TVal) (p1 : TVal)  {r : Bool} (h : m_i_LessVal N p0 p1 = some r) :
  CB w0 prog 102 [.agg [iV p0.K, iV p0.N, .string p0.S].toArray, .agg [iV p1.K, iV p1.N, .string p1.S].toArray] (.bool r) := by
 refine eN func102 rfl ntmps102 rfl w0 fun hF => ?_
 unfold m_i_LessVal at h
 refine sr <| lbx rfl fun b_1 => lbx rfl fun b_2 => arr 6 [35, 3] rfl <| qc h (m_i_compareVals_ok N · p0 p1 ·) rfl rfl rfl fun x1 h => art 3 [] rfl ?_
 exact rt hF h
theorem m_i_Holds_ok (w0 : Base Ψ Φ []) (p0 : TCond) (p1 : (List TBind)) (ph1 : RSl RTBind 4 Ψ pG1 pv1 p1) {r : Bool} (h : m_i_Holds N p0 p1 = some r) :
  CB w0 prog 66 [.agg [iV p0.Op, iV p0.L.K, .string p0.L.S, iV p0.L.V.K, iV p0.L.V.N, .string p0.L.V.S, iV p0.R.K, .string p0.R.S, iV p0.R.V.K, iV p0.R.V.N, .string p0.R.V.S].toArray, pv1] (.bool r) := by
 refine eN func66 rfl ntmps66 rfl w0 fun hF => ?_
 unfold m_i_Holds at h
 refine sr <| lbx rfl fun b_1 => arr 7 [1, 5] rfl <| qd h (m_i_ArgVal_ok N · p0.L p1 ph1 ·) rfl rfl rfl fun x1 h => arr 3 [] rfl <| lnz Zr_133 rfl fun b_2 => soN 0 Sz_133 rfl ⟨rfl, rfl, rfl, trivial⟩ rfl ?_
 refine arr 7 [6, 37] rfl <| qd h (m_i_ArgVal_ok N · p0.R p1 ph1 ·) rfl rfl rfl fun x2 h => arr 3 [] rfl <| lnz Zr_133 rfl fun b_3 => soN 0 Sz_133 rfl ⟨rfl, rfl, rfl, trivial⟩ rfl ?_
 refine arr 8 [] rfl ?_
 obtain ⟨b1, hb_1, h⟩ := bs h
 refine WL.cutN 3 [(28, .bool b1), (2, pQ b_1), (5, pQ b_2), (7, pQ b_3)] ?_ (fun K => ?_)
 rotate_left
 ·refine sp 25 hb_1 rfl (fun hb_1 => ?_) fun hb_1 => ?_
  ·refine arr 3 [] rfl ?_
   cases hb_1
   exact ku K
  ·refine arr 3 [] rfl ?_
   cases hb_1
   exact ku K
 refine en ?_
 refine ch h rfl ?_ ?_ <;> intro h
 ·refine att 4 [] rfl ?_
  exact rt hF h
 refine att 13 [0, 64] rfl ?_
 refine ch h rfl ?_ ?_ <;> intro h
 ·refine atr 4 [35, 3] rfl <| lq (q_eqA EqT_133 rfl rfl rfl (r := eqT_TVal x1.1 x2.1) rfl) rfl <| la rfl <| en ?_
  exact rt hF h
 refine att 5 [] rfl ?_
 refine ch h rfl ?_ ?_ <;> intro h
 ·refine atr 4 [35, 3] rfl <| lq (q_neA EqT_133 rfl rfl rfl (r := eqT_TVal x1.1 x2.1) rfl) rfl <| la rfl <| en ?_
  exact rt hF h
 refine att 5 [] rfl ?_
 refine ch h rfl ?_ ?_ <;> intro h
 ·refine atr 4 [35, 3] rfl <| qc h (m_i_LessVal_ok N · x1.1 x2.1 ·) rfl rfl rfl fun x3 h => la rfl <| en ?_
  exact rt hF h
 refine att 6 [] rfl ?_
 exact rt hF h
theorem m_i_HoldAll_ok (w0 : Base Ψ Φ []) (p0 : (List TCond)) (p1 : (List TBind)) (ph0 : RSl RTCond 11 Ψ pG0 pv0 p0) (ph1 : RSl RTBind 4 Ψ pG1 pv1 p1) {r : Bool} (h : m_i_HoldAll N p0 p1 = some r) :
  CB w0 prog 35 [pv0, pv1] (.bool r) := by
 refine eN func35 rfl ntmps35 rfl w0 fun hF => ?_
 unfold m_i_HoldAll at h
 refine atr 8 [] rfl <| lnr ph0 rfl <| art 3 [] rfl ?_
 refine lin (σ := Int) (fun s => [(1, pv1), (7, pv0), (8, iV (p0.length : Int)), (9, iV s)]) (fun s => St w0 Φ [] []) (fun m s => m_i_HoldAll_l1 N p0 p1 m s = some r) (0) N h (sx [] []) (fun n1 ih1 s hm => ?_)
 revert hm; revert s; intro s1 hm
 have h : m_i_HoldAll_l1 N p0 p1 (n1 + 1) s1 = some r := hm
 show WT _ _ [(1, pv1), (7, pv0), (8, iV (p0.length : Int)), (9, iV s1)] (St w0 Φ [] [])
 unfold m_i_HoldAll_l1 at h
 refine att 5 [] rfl ?_
 refine ch h rfl ?_ ?_ <;> intro h
 ·refine atr 5 [] rfl ?_
  obtain ⟨x1, hx1, h⟩ := bs h
  obtain ⟨cs1, F1, -, g1, hb1, hs1, r1⟩ := ph0.el (idx_some hx1).2.2
  obtain ⟨rfl, -⟩ := r1
  refine lia ph0 hx1 rfl <| lhx 0 11 g1 rfl <| lnz Zr_137 rfl fun b_1 => soN 0 Sz_137 rfl ⟨rfl, rfl, rfl, rfl, rfl, rfl, rfl, rfl, rfl, rfl, rfl, trivial⟩ rfl ?_
  refine arr 5 [11] rfl <| qd h (m_i_Holds_ok N · x1 p1 ph1 ·) rfl rfl rfl fun x2 h => la rfl <| en ?_
  refine ch h rfl ?_ ?_ <;> intro h
  ·refine att 4 [] rfl ?_
   exact rt hF h
  refine att 6 [] rfl ?_
  exact lb [] [] (ih1 _ h)
 refine att 5 [] rfl ?_
 exact rt hF h
theorem m_sl_Clone_Sint_int_ok (w0 : Base Ψ Φ []) (p0 : (List Int)) (ph0 : RSl (RI .i64) 1 Ψ pG0 pv0 p0) {r : (List Int)} (h : m_sl_Clone_Sint_int N p0 = some r) :
  Calls prog 36 [pv0].toArray w0.w (PostG Φ w0.w [] (fun Φ' Fs v => ∃ (sr_0_0 : Value), v = sr_0_0 ∧ Fs = [ob sr_0_0] ∧ OSl (RI .i64) 3 1 Φ' [] sr_0_0 r)) := by
 refine eN func36 rfl ntmps36 rfl w0 fun hF => ?_
 unfold m_sl_Clone_Sint_int at h
 refine att 6 [] rfl ?_
 rcases RSl.nilOr ph0 with ⟨hxs1, cc1, hv1⟩ | ⟨a1, cc1, hv1⟩
 ·replace h : some [] = some r := by simpa [hxs1, app] using h
  refine atr 2 [] rfl <| lq (q_eqNil Sl_77 (congrArg some hv1) rfl) rfl <| en ?_
  refine cd rfl (fun c => ?_) (fun c => by simp at c)
  refine att 4 [] rfl ?_
  refine WT.ret hF (resOk.one rfl) (fun w1 hw => ?_)
  cases h
  replace hw := hw.addNil
  refine postG_of_St (js := [0]) hw rfl ⟨.slice none 0 0, rfl, rfl, OSl.nil _ _ _ _⟩
 refine atr 2 [] rfl <| lq (q_eqNil Sl_77 (congrArg some hv1) rfl) rfl <| en ?_
 refine cd rfl (fun c => by simp at c) (fun c => ?_)
 refine atr 3 [] rfl <| le' (e_lit0 (R := RI .i64) RI.lasts Sl_77 Zr_3 rfl rfl) rfl ?_
 rintro v1 Φ_1 D1 ⟨fr1, h1⟩
 refine la rfl <| lu0 ph0 fun h2 => ?_
 obtain ⟨x1, hx1, h⟩ := bs h
 refine le' (e_appF RI.lasts RI.one RI.flat Sl_77 Ei_3 rfl rfl rfl rfl rfl (js := [0]) (Rr := []) rfl h1 h2 hx1) rfl ?_
 rintro v2 Φ_2 D2 ⟨⟨ap1, fr2⟩, h3⟩
 refine la rfl <| en ?_
 exact rtg [0] hF (resOk.one rfl) rfl (by cases h; exact fun w1 hw => ⟨v2, rfl, rfl, h3⟩)
theorem m_sl_insertionSortCmpFunc_i_Match_ok {p3f : Nat} {p3fr : List Value} (w0 : Base Ψ Φ [ob pv0, pD0].flatten) (p0 : (List TMatch)) (p1 : Int) (p2 : Int) (p3 : TMatch → TMatch → Option (Int)) (ph0 : OSl OTMatch 84 3 Φ pD0 pv0 p0) (p3hF : Fun prog p3f = true) (p3h : ∀ {Φ' : Hp} {w' : World}, FrH [ob pv0, pD0].flatten Φ Φ' → In Φ' w' → ∀ (p3a0 : TMatch) (p3a1 : TMatch) {p3v0_0 : Value} {p3G0_0 : List Nat} {p3v0_1 : Value} {p3G0_1 : List Nat} {p3v1_0 : Value} {p3G1_0 : List Nat} {p3v1_1 : Value} {p3G1_1 : List Nat} (_ : RSl (RI .i64) 1 Φ' p3G0_0 p3v0_0 p3a0.Ids) (_ : RSl RTBind 4 Φ' p3G0_1 p3v0_1 p3a0.Binds) (_ : RSl (RI .i64) 1 Φ' p3G1_0 p3v1_0 p3a1.Ids) (_ : RSl RTBind 4 Φ' p3G1_1 p3v1_1 p3a1.Binds) {r : Int}, p3 p3a0 p3a1 = some r → Calls prog p3f (([.agg [iV p3a0.Rule, p3v0_0, p3v0_1].toArray, .agg [iV p3a1.Rule, p3v1_0, p3v1_1].toArray] : List Value) ++ p3fr).toArray w' (Post (iV r) w')) {r : (List TMatch)} (h : m_sl_insertionSortCmpFunc_i_Match N p0 p1 p2 p3 = some r) :
  Calls prog 103 [pv0, iV p1, iV p2, .func (.func p3f) #[] p3fr.toArray].toArray w0.w (PostG Φ w0.w [ob pv0, pD0].flatten (fun Φ' Fs v => ∃ (Do_0_0 : List Nat), v = .tuple #[] ∧ Fs = [ob pv0, Do_0_0] ∧ OSl OTMatch 84 3 Φ' Do_0_0 pv0 r)) := by
 refine eL func103 rfl ntmps103 rfl (L := [ob pv0, pD0]) w0 (fun hF => ?_)
 unfold m_sl_insertionSortCmpFunc_i_Match at h
 refine att 7 [] rfl ?_
 refine lin (σ := Hp × (List TMatch) × List Nat × Int) (fun s => [(0, pv0), (1, iV p1), (2, iV p2), (3, .func (.func p3f) #[] p3fr.toArray), (8, iV s.2.2.2)]) (fun s => St w0 s.1 [] [ob pv0, s.2.2.1]) (fun m s => m_sl_insertionSortCmpFunc_i_Match_l1 N p1 p2 p3 m s.2.1 s.2.2.2 = some r ∧ (OSl OTMatch 84 3 s.1 s.2.2.1 pv0 s.2.1)) (Φ, p0, pD0, wz (p1 + 1)) N ⟨h, ph0⟩ (sx [0, 0] []) (fun n1 ih1 s hm => ?_)
 obtain ⟨Φ_1, s1, D1, s2⟩ := s
 obtain ⟨h, k1⟩ := hm
 dsimp only at h k1 ⊢
 unfold m_sl_insertionSortCmpFunc_i_Match_l1 at h
 refine att 7 [] rfl ?_
 refine ch h rfl ?_ ?_ <;> intro h
 ·refine att 9 [] rfl ?_
  refine lin (σ := Hp × (List TMatch) × List Nat × Int) (fun s => [(0, pv0), (1, iV p1), (2, iV p2), (3, .func (.func p3f) #[] p3fr.toArray), (8, iV s2), (9, iV s.2.2.2)]) (fun s => St w0 s.1 [] [ob pv0, s.2.2.1]) (fun m s => m_sl_insertionSortCmpFunc_i_Match_l2 N p1 p3 s2 (m_sl_insertionSortCmpFunc_i_Match_l1 N p1 p2 p3 n1) m s.2.1 s.2.2.2 = some r ∧ (OSl OTMatch 84 3 s.1 s.2.2.1 pv0 s.2.1)) (Φ_1, s1, D1, s2) N ⟨h, k1⟩ (sx [0, 0] []) (fun n2 ih2 s hm => ?_)
  obtain ⟨Φ_2, s3, D2, s4⟩ := s
  obtain ⟨h, k2⟩ := hm
  dsimp only at h k2 ⊢
  unfold m_sl_insertionSortCmpFunc_i_Match_l2 at h
  refine sq <| sq <| WT.draw mixed (by kernel_rfl) (fun _ h => h.drew) <| aqq 4 [] rfl ?_
  obtain ⟨b1, hb_1, h⟩ := bs h
  refine WQ.cutN 13 [(34, .bool b1), (0, pv0), (1, iV p1), (2, iV p2), (3, .func (.func p3f) #[] p3fr.toArray), (8, iV s2), (9, iV s4)] ?_ (fun K => ?_)
  rotate_left
  ·refine WQ.split (d := 21) rfl (fun c2 => ?_) (fun c2 => ?_)
   ·replace hb_1 := ite_t hb_1 c2
    refine aqq 3 [] rfl <| WQ.yes rfl rfl ?_
    obtain ⟨x1, hx1, hb_1⟩ := bs hb_1
    obtain ⟨cs1, F1, -, g1, hb1, hs1, r1⟩ := k2.elS (idx_some hx1).2.2
    obtain ⟨v1, v2, rfl, rfl, h1, h2⟩ := r1
    have h3 := h1.rsl
    have h4 := h2.rsl
    refine qq (q_indexAddr Sl_35 rfl rfl k2.rsl hx1) rfl <| WQ.yes rfl rfl <| qq (q_loadN Tn_84 rfl (fun w1 hw => (g1.of_eq 0 3 rfl rfl : rg _ _ _ [iV x1.Rule, v1, v2]).rangeAt hw.fro) rfl) rfl <| aqq 3 [] rfl <| WQ.yes rfl rfl ?_
    obtain ⟨x2, hx2, hb_1⟩ := bs hb_1
    obtain ⟨cs2, F2, -, g2, hb2, hs2, r2⟩ := k2.elS (idx_some hx2).2.2
    obtain ⟨v3, v4, rfl, rfl, h5, h6⟩ := r2
    have h7 := h5.rsl
    have h8 := h6.rsl
    refine qq (q_indexAddr Sl_35 rfl rfl k2.rsl hx2) rfl <| WQ.yes rfl rfl <| qq (q_loadN Tn_84 rfl (fun w1 hw => (g2.of_eq 0 3 rfl rfl : rg _ _ _ [iV x2.Rule, v3, v4]).rangeAt hw.fro) rfl) rfl <| WQ.yes rfl rfl ?_
    obtain ⟨x3, hx3, hb_1⟩ := bs hb_1
    refine qp (p_callV p3hF rfl rfl (fun w1 hw => p3h hw.frB hw.fro x1 x2 h3 h4 h7 h8 hx3)) rfl <| aqq 2 [] rfl ?_
    cases hb_1
    exact kq K
   ·replace hb_1 := ite_f hb_1 c2
    refine aqq 13 [] rfl ?_
    cases hb_1
    exact kq K
  refine WQ.nil ?_
  refine ch h rfl ?_ ?_ <;> intro h
  ·refine att 3 [] rfl <| WT.mix (fun _ => True) (fun _ => true) mixed (fun _ h => h.drew) <| ma 0 rfl (by kernel_rfl) (fun _ _ => trivial) rfl <| ma 1 rfl (by kernel_rfl) (fun _ _ => trivial) rfl <| ma 2 rfl (by kernel_rfl) (fun _ _ => trivial) rfl <| ma 3 rfl (by kernel_rfl) (fun _ _ => trivial) rfl <| ma 4 rfl (by kernel_rfl) (fun _ _ => trivial) rfl <| ma 5 rfl (by kernel_rfl) (fun _ _ => trivial) rfl <| ma 6 rfl (by kernel_rfl) (fun _ _ => trivial) rfl <| ma 7 rfl (by kernel_rfl) (fun _ _ => trivial) rfl ?_
   obtain ⟨x4, hx4, h⟩ := bs h
   obtain ⟨cs3, F3, -, g3, hb3, hs3, r3⟩ := k2.elS (idx_some hx4).2.2
   obtain ⟨v5, v6, rfl, rfl, h9, h10⟩ := r3
   have h11 := h9.rsl
   have h12 := h10.rsl
   refine mq 8 rfl (by kernel_rfl) (fun _ _ => trivial) (q_indexAddr Sl_35 rfl rfl k2.rsl hx4) rfl <| ma 10 rfl (by kernel_rfl) (fun _ _ => trivial) rfl <| ma 11 rfl (by kernel_rfl) (fun _ _ => trivial) rfl ?_
   obtain ⟨x5, hx5, h⟩ := bs h
   obtain ⟨cs4, F4, -, g4, hb4, hs4, r4⟩ := k2.elS (idx_some hx5).2.2
   obtain ⟨v7, v8, rfl, rfl, h13, h14⟩ := r4
   have h15 := h13.rsl
   have h16 := h14.rsl
   refine mq 12 rfl (by kernel_rfl) (fun _ _ => trivial) (q_indexAddr Sl_35 rfl rfl k2.rsl hx5) rfl ?_
   refine WM.qq2 9 13 rfl rfl (q_loadN Tn_84 rfl (fun w1 hw => (g3.of_eq 0 3 rfl rfl : rg _ _ _ [iV x4.Rule, v5, v6]).rangeAt hw.fro) rfl) (q_loadN Tn_84 rfl (fun w1 hw => (g4.of_eq 0 3 rfl rfl : rg _ _ _ [iV x5.Rule, v7, v8]).rangeAt hw.fro) rfl) (q_loadN Tn_84 rfl (fun w1 hw => (g4.of_eq 0 3 rfl rfl : rg _ _ _ [iV x5.Rule, v7, v8]).rangeAt hw.fro) rfl) (q_loadN Tn_84 rfl (fun w1 hw => (g3.of_eq 0 3 rfl rfl : rg _ _ _ [iV x4.Rule, v5, v6]).rangeAt hw.fro) rfl) rfl rfl (fun _ _ => trivial) rfl rfl (by kernel_rfl) (by kernel_rfl) (by kernel_rfl) ?_
   obtain ⟨x6, hx6, h⟩ := bs h
   obtain ⟨cs5, F5, -, g5, hb5, hs5, r5⟩ := k2.elS (idx_some hx6).2.2
   obtain ⟨v9, v10, rfl, rfl, h17, h18⟩ := r5
   have h19 := h17.rsl
   have h20 := h18.rsl
   refine mq 14 rfl (by kernel_rfl) (fun _ _ => trivial) (q_indexAddr Sl_35 rfl rfl k2.rsl hx6) rfl ?_
   refine WM.one 15 (by kernel_rfl) (mu rfl (fun _ _ _ _ _ _ => trivial) (u_sw1 (js := [0]) (Rr := [D2]) (vs := [iV x4.Rule, v5, v6]) OTMatch.lasts Sz_84 rfl rfl rfl rfl ⟨rfl, h11.one, h12.one, trivial⟩ rfl k2 (idx_some hx5).2.2 (idx_some hx4).2.2 g4 rfl g3 (fun ap => ap.q 0 rfl)) rfl ?_)
   rintro Φ_3 D3 ⟨⟨ap1, fr1⟩, h21⟩
   replace h15 := h15.fr fr1 (Dj.sub (ap1.q 0 rfl) (fun k h => hs4 k (List.mem_append.2 (.inl h))))
   replace h16 := h16.fr fr1 (Dj.sub (ap1.q 0 rfl) (fun k h => hs4 k (List.mem_append.2 (.inr h))))
   obtain ⟨x7, hx7, h⟩ := bs h
   refine mq 16 rfl (by kernel_rfl) (fun _ _ => trivial) (q_indexAddrW Sl_35 rfl rfl h21 hx7 (by simp)) rfl ?_
   refine WM.one 17 (by kernel_rfl) (mu rfl (fun _ _ _ _ _ _ => trivial) (u_sw2 (js := [0]) (Rr := [D2]) OTMatch.lasts Sz_84 rfl rfl rfl ⟨rfl, h15.one, h16.one, trivial⟩ rfl h21 (idx_some hx5).2.2 (idx_some hx4).2.2 (fun ap => ap.q 0 rfl)) rfl ?_)
   rintro Φ_4 D4 ⟨⟨ap2, fr2⟩, sp1, h22⟩
   refine WM.conv (S' := St w0 Φ_4 [] [D4, ob pv0]) (fun w1 hw => hw.merge (js := [1]) rfl (by simpa [List.append_assoc, ob_nil] using sp1)) <| WM.nil (by kernel_rfl) <| att 6 [] rfl ?_
   exact lb [1, 0] [] (ih2 (_, _, _, _) ⟨h, h22⟩)
  refine att 7 [] rfl ?_
  exact lb [0, 0] [] (ih1 (_, _, _, _) ⟨h, k2⟩)
 refine xt rfl ?_
 refine WT.fin hF resOk.none (fun w1 hw => ?_)
 cases h
 refine postG_of_St (js := [0, 0]) hw rfl ⟨D1, rfl, rfl, k1⟩
theorem m_sl_swapRangeCmpFunc_i_Match_ok {p4f : Nat} {p4fr : List Value} (w0 : Base Ψ Φ [ob pv0, pD0].flatten) (p0 : (List TMatch)) (p1 : Int) (p2 : Int) (p3 : Int) (p4 : TMatch → TMatch → Option (Int)) (ph0 : OSl OTMatch 84 3 Φ pD0 pv0 p0) (p4hF : Fun prog p4f = true) (p4h : ∀ {Φ' : Hp} {w' : World}, FrH [ob pv0, pD0].flatten Φ Φ' → In Φ' w' → ∀ (p4a0 : TMatch) (p4a1 : TMatch) {p4v0_0 : Value} {p4G0_0 : List Nat} {p4v0_1 : Value} {p4G0_1 : List Nat} {p4v1_0 : Value} {p4G1_0 : List Nat} {p4v1_1 : Value} {p4G1_1 : List Nat} (_ : RSl (RI .i64) 1 Φ' p4G0_0 p4v0_0 p4a0.Ids) (_ : RSl RTBind 4 Φ' p4G0_1 p4v0_1 p4a0.Binds) (_ : RSl (RI .i64) 1 Φ' p4G1_0 p4v1_0 p4a1.Ids) (_ : RSl RTBind 4 Φ' p4G1_1 p4v1_1 p4a1.Binds) {r : Int}, p4 p4a0 p4a1 = some r → Calls prog p4f (([.agg [iV p4a0.Rule, p4v0_0, p4v0_1].toArray, .agg [iV p4a1.Rule, p4v1_0, p4v1_1].toArray] : List Value) ++ p4fr).toArray w' (Post (iV r) w')) {r : (List TMatch)} (h : m_sl_swapRangeCmpFunc_i_Match N p0 p1 p2 p3 p4 = some r) :
  Calls prog 148 [pv0, iV p1, iV p2, iV p3, .func (.func p4f) #[] p4fr.toArray].toArray w0.w (PostG Φ w0.w [ob pv0, pD0].flatten (fun Φ' Fs v => ∃ (Do_0_0 : List Nat), v = .tuple #[] ∧ Fs = [ob pv0, Do_0_0] ∧ OSl OTMatch 84 3 Φ' Do_0_0 pv0 r)) := by
 refine eL func148 rfl ntmps148 rfl (L := [ob pv0, pD0]) w0 (fun hF => ?_)
 unfold m_sl_swapRangeCmpFunc_i_Match at h
 refine att 5 [] rfl ?_
 refine lin (σ := Hp × (List TMatch) × List Nat × Int) (fun s => [(0, pv0), (1, iV p1), (2, iV p2), (3, iV p3), (10, iV s.2.2.2)]) (fun s => St w0 s.1 [] [ob pv0, s.2.2.1]) (fun m s => m_sl_swapRangeCmpFunc_i_Match_l1 N p1 p2 p3 m s.2.1 s.2.2.2 = some r ∧ (OSl OTMatch 84 3 s.1 s.2.2.1 pv0 s.2.1)) (Φ, p0, pD0, 0) N ⟨h, ph0⟩ (sx [0, 0] []) (fun n1 ih1 s hm => ?_)
 obtain ⟨Φ_1, s1, D1, s2⟩ := s
 obtain ⟨h, k1⟩ := hm
 dsimp only at h k1 ⊢
 unfold m_sl_swapRangeCmpFunc_i_Match_l1 at h
 refine att 7 [] rfl ?_
 refine ch h rfl ?_ ?_ <;> intro h
 ·refine att 3 [] rfl <| WT.mix (fun _ => True) (fun _ => true) mixed (fun _ h => h.drew) <| ma 0 rfl (by kernel_rfl) (fun _ _ => trivial) rfl <| ma 1 rfl (by kernel_rfl) (fun _ _ => trivial) rfl <| ma 2 rfl (by kernel_rfl) (fun _ _ => trivial) rfl <| ma 3 rfl (by kernel_rfl) (fun _ _ => trivial) rfl <| ma 4 rfl (by kernel_rfl) (fun _ _ => trivial) rfl <| ma 5 rfl (by kernel_rfl) (fun _ _ => trivial) rfl <| ma 6 rfl (by kernel_rfl) (fun _ _ => trivial) rfl <| ma 7 rfl (by kernel_rfl) (fun _ _ => trivial) rfl <| ma 8 rfl (by kernel_rfl) (fun _ _ => trivial) rfl ?_
  refine ma 9 rfl (by kernel_rfl) (fun _ _ => trivial) rfl <| ma 10 rfl (by kernel_rfl) (fun _ _ => trivial) rfl <| ma 11 rfl (by kernel_rfl) (fun _ _ => trivial) rfl ?_
  obtain ⟨x1, hx1, h⟩ := bs h
  obtain ⟨cs1, F1, -, g1, hb1, hs1, r1⟩ := k1.elS (idx_some hx1).2.2
  obtain ⟨v1, v2, rfl, rfl, h1, h2⟩ := r1
  have h3 := h1.rsl
  have h4 := h2.rsl
  refine mq 12 rfl (by kernel_rfl) (fun _ _ => trivial) (q_indexAddr Sl_35 rfl rfl k1.rsl hx1) rfl <| ma 14 rfl (by kernel_rfl) (fun _ _ => trivial) rfl <| ma 15 rfl (by kernel_rfl) (fun _ _ => trivial) rfl <| ma 16 rfl (by kernel_rfl) (fun _ _ => trivial) rfl <| ma 17 rfl (by kernel_rfl) (fun _ _ => trivial) rfl ?_
  obtain ⟨x2, hx2, h⟩ := bs h
  obtain ⟨cs2, F2, -, g2, hb2, hs2, r2⟩ := k1.elS (idx_some hx2).2.2
  obtain ⟨v3, v4, rfl, rfl, h5, h6⟩ := r2
  have h7 := h5.rsl
  have h8 := h6.rsl
  refine mq 18 rfl (by kernel_rfl) (fun _ _ => trivial) (q_indexAddr Sl_35 rfl rfl k1.rsl hx2) rfl ?_
  refine WM.qq2 13 19 rfl rfl (q_loadN Tn_84 rfl (fun w1 hw => (g1.of_eq 0 3 rfl rfl : rg _ _ _ [iV x1.Rule, v1, v2]).rangeAt hw.fro) rfl) (q_loadN Tn_84 rfl (fun w1 hw => (g2.of_eq 0 3 rfl rfl : rg _ _ _ [iV x2.Rule, v3, v4]).rangeAt hw.fro) rfl) (q_loadN Tn_84 rfl (fun w1 hw => (g2.of_eq 0 3 rfl rfl : rg _ _ _ [iV x2.Rule, v3, v4]).rangeAt hw.fro) rfl) (q_loadN Tn_84 rfl (fun w1 hw => (g1.of_eq 0 3 rfl rfl : rg _ _ _ [iV x1.Rule, v1, v2]).rangeAt hw.fro) rfl) rfl rfl (fun _ _ => trivial) rfl rfl (by kernel_rfl) (by kernel_rfl) (by kernel_rfl) ?_
  obtain ⟨x3, hx3, h⟩ := bs h
  obtain ⟨cs3, F3, -, g3, hb3, hs3, r3⟩ := k1.elS (idx_some hx3).2.2
  obtain ⟨v5, v6, rfl, rfl, h9, h10⟩ := r3
  have h11 := h9.rsl
  have h12 := h10.rsl
  refine mq 20 rfl (by kernel_rfl) (fun _ _ => trivial) (q_indexAddr Sl_35 rfl rfl k1.rsl hx3) rfl ?_
  refine WM.one 21 (by kernel_rfl) (mu rfl (fun _ _ _ _ _ _ => trivial) (u_sw1 (js := [0]) (Rr := [D1]) (vs := [iV x1.Rule, v1, v2]) OTMatch.lasts Sz_84 rfl rfl rfl rfl ⟨rfl, h3.one, h4.one, trivial⟩ rfl k1 (idx_some hx2).2.2 (idx_some hx1).2.2 g2 rfl g1 (fun ap => ap.q 0 rfl)) rfl ?_)
  rintro Φ_2 D2 ⟨⟨ap1, fr1⟩, h13⟩
  replace h7 := h7.fr fr1 (Dj.sub (ap1.q 0 rfl) (fun k h => hs2 k (List.mem_append.2 (.inl h))))
  replace h8 := h8.fr fr1 (Dj.sub (ap1.q 0 rfl) (fun k h => hs2 k (List.mem_append.2 (.inr h))))
  obtain ⟨x4, hx4, h⟩ := bs h
  refine mq 22 rfl (by kernel_rfl) (fun _ _ => trivial) (q_indexAddrW Sl_35 rfl rfl h13 hx4 (by simp)) rfl ?_
  refine WM.one 23 (by kernel_rfl) (mu rfl (fun _ _ _ _ _ _ => trivial) (u_sw2 (js := [0]) (Rr := [D1]) OTMatch.lasts Sz_84 rfl rfl rfl ⟨rfl, h7.one, h8.one, trivial⟩ rfl h13 (idx_some hx2).2.2 (idx_some hx1).2.2 (fun ap => ap.q 0 rfl)) rfl ?_)
  rintro Φ_3 D3 ⟨⟨ap2, fr2⟩, sp1, h14⟩
  refine WM.conv (S' := St w0 Φ_3 [] [D3, ob pv0]) (fun w1 hw => hw.merge (js := [1]) rfl (by simpa [List.append_assoc, ob_nil] using sp1)) <| WM.nil (by kernel_rfl) <| att 6 [] rfl ?_
  exact lb [1, 0] [] (ih1 (_, _, _, _) ⟨h, h14⟩)
 refine xt rfl ?_
 refine WT.fin hF resOk.none (fun w1 hw => ?_)
 cases h
 refine postG_of_St (js := [0, 0]) hw rfl ⟨D1, rfl, rfl, k1⟩
theorem m_sl_rotateCmpFunc_i_Match_ok {p4f : Nat} {p4fr : List Value} (w0 : Base Ψ Φ [ob pv0, pD0].flatten) (p0 : (List TMatch)) (p1 : Int) (p2 : Int) (p3 : Int) (p4 : TMatch → TMatch → Option (Int)) (ph0 : OSl OTMatch 84 3 Φ pD0 pv0 p0) (p4hF : Fun prog p4f = true) (p4h : ∀ {Φ' : Hp} {w' : World}, FrH [ob pv0, pD0].flatten Φ Φ' → In Φ' w' → ∀ (p4a0 : TMatch) (p4a1 : TMatch) {p4v0_0 : Value} {p4G0_0 : List Nat} {p4v0_1 : Value} {p4G0_1 : List Nat} {p4v1_0 : Value} {p4G1_0 : List Nat} {p4v1_1 : Value} {p4G1_1 : List Nat} (_ : RSl (RI .i64) 1 Φ' p4G0_0 p4v0_0 p4a0.Ids) (_ : RSl RTBind 4 Φ' p4G0_1 p4v0_1 p4a0.Binds) (_ : RSl (RI .i64) 1 Φ' p4G1_0 p4v1_0 p4a1.Ids) (_ : RSl RTBind 4 Φ' p4G1_1 p4v1_1 p4a1.Binds) {r : Int}, p4 p4a0 p4a1 = some r → Calls prog p4f (([.agg [iV p4a0.Rule, p4v0_0, p4v0_1].toArray, .agg [iV p4a1.Rule, p4v1_0, p4v1_1].toArray] : List Value) ++ p4fr).toArray w' (Post (iV r) w')) {r : (List TMatch)} (h : m_sl_rotateCmpFunc_i_Match N p0 p1 p2 p3 p4 = some r) :
  Calls prog 129 [pv0, iV p1, iV p2, iV p3, .func (.func p4f) #[] p4fr.toArray].toArray w0.w (PostG Φ w0.w [ob pv0, pD0].flatten (fun Φ' Fs v => ∃ (Do_0_0 : List Nat), v = .tuple #[] ∧ Fs = [ob pv0, Do_0_0] ∧ OSl OTMatch 84 3 Φ' Do_0_0 pv0 r)) := by
 refine eL func129 rfl ntmps129 rfl (L := [ob pv0, pD0]) w0 (fun hF => ?_)
 unfold m_sl_rotateCmpFunc_i_Match at h
 refine att 16 [] rfl ?_
 refine lin (σ := Hp × (List TMatch) × List Nat × Int × Int) (fun s => [(0, pv0), (2, iV p2), (4, .func (.func p4f) #[] p4fr.toArray), (10, iV s.2.2.2.1), (11, iV s.2.2.2.2)]) (fun s => St w0 s.1 [] [ob pv0, s.2.2.1]) (fun m s => m_sl_rotateCmpFunc_i_Match_l1 N p2 p4 m s.2.1 s.2.2.2.1 s.2.2.2.2 = some r ∧ (OSl OTMatch 84 3 s.1 s.2.2.1 pv0 s.2.1)) (Φ, p0, pD0, wz (p2 - p1), wz (p3 - p2)) N ⟨h, ph0⟩ (sx [0, 0] []) (fun n1 ih1 s hm => ?_)
 obtain ⟨Φ_1, s1, D1, s2, s3⟩ := s
 obtain ⟨h, k1⟩ := hm
 dsimp only at h k1 ⊢
 unfold m_sl_rotateCmpFunc_i_Match_l1 at h
 refine att 7 [] rfl ?_
 refine ch h rfl ?_ ?_ <;> intro h
 ·refine att 8 [] rfl ?_
  refine ch h rfl ?_ ?_ <;> intro h
  ·refine atr 9 [] rfl ?_
   obtain ⟨x1, hx1, h⟩ := bs h
   refine lc (k_call (js := [0, 0]) (R := []) Fun_148 rfl rfl (fun w1 hw ap hl => m_sl_swapRangeCmpFunc_i_Match_ok N (bx hw ap hl) s1 (wz (p2 - s2)) p2 s3 p4 k1 p4hF (fun hle' => p4h (hw.frX ap hle'))  hx1)) rfl ?_
   rintro v1 Φ_2 F1 ⟨ap1, fr1, D2, rfl, rfl, h1⟩
   refine art 8 [] rfl ?_
   exact lb [0, 0] [] (ih1 (_, _, _, _, _) ⟨h, h1⟩)
  refine atr 13 [] rfl ?_
  obtain ⟨x2, hx2, h⟩ := bs h
  refine lc (k_call (js := [0, 0]) (R := []) Fun_148 rfl rfl (fun w1 hw ap hl => m_sl_swapRangeCmpFunc_i_Match_ok N (bx hw ap hl) s1 (wz (p2 - s2)) (wz ((wz (p2 + s3)) - s2)) s2 p4 k1 p4hF (fun hle' => p4h (hw.frX ap hle'))  hx2)) rfl ?_
  rintro v2 Φ_3 F2 ⟨ap2, fr2, D3, rfl, rfl, h2⟩
  refine art 8 [] rfl ?_
  exact lb [0, 0] [] (ih1 (_, _, _, _, _) ⟨h, h2⟩)
 refine atr 9 [] rfl ?_
 obtain ⟨x3, hx3, h⟩ := bs h
 refine lc (k_call (js := [0, 0]) (R := []) Fun_148 rfl rfl (fun w1 hw ap hl => m_sl_swapRangeCmpFunc_i_Match_ok N (bx hw ap hl) s1 (wz (p2 - s2)) p2 s2 p4 k1 p4hF (fun hle' => p4h (hw.frX ap hle'))  hx3)) rfl ?_
 rintro v3 Φ_4 F3 ⟨ap3, fr3, D4, rfl, rfl, h3⟩
 refine en ?_
 refine WT.fin hF resOk.none (fun w1 hw => ?_)
 cases h
 refine postG_of_St (js := [0, 0]) hw rfl ⟨D4, rfl, rfl, h3⟩
theorem m_sl_symMergeCmpFunc_i_Match_ok (N : Nat) : ∀ {Ψ Φ : Hp} {pv0 : Value} {pD0 : List Nat} {p4f : Nat} {p4fr : List Value} (w0 : Base Ψ Φ [ob pv0, pD0].flatten) (p0 : (List TMatch)) (p1 : Int) (p2 : Int) (p3 : Int) (p4 : TMatch → TMatch → Option (Int)) (ph0 : OSl OTMatch 84 3 Φ pD0 pv0 p0) (p4hF : Fun prog p4f = true) (p4h : ∀ {Φ' : Hp} {w' : World}, FrH [ob pv0, pD0].flatten Φ Φ' → In Φ' w' → ∀ (p4a0 : TMatch) (p4a1 : TMatch) {p4v0_0 : Value} {p4G0_0 : List Nat} {p4v0_1 : Value} {p4G0_1 : List Nat} {p4v1_0 : Value} {p4G1_0 : List Nat} {p4v1_1 : Value} {p4G1_1 : List Nat} (_ : RSl (RI .i64) 1 Φ' p4G0_0 p4v0_0 p4a0.Ids) (_ : RSl RTBind 4 Φ' p4G0_1 p4v0_1 p4a0.Binds) (_ : RSl (RI .i64) 1 Φ' p4G1_0 p4v1_0 p4a1.Ids) (_ : RSl RTBind 4 Φ' p4G1_1 p4v1_1 p4a1.Binds) {r : Int}, p4 p4a0 p4a1 = some r → Calls prog p4f (([.agg [iV p4a0.Rule, p4v0_0, p4v0_1].toArray, .agg [iV p4a1.Rule, p4v1_0, p4v1_1].toArray] : List Value) ++ p4fr).toArray w' (Post (iV r) w')) {r : (List TMatch)} (h : m_sl_symMergeCmpFunc_i_Match N p0 p1 p2 p3 p4 = some r),
  Calls prog 104 [pv0, iV p1, iV p2, iV p3, .func (.func p4f) #[] p4fr.toArray].toArray w0.w (PostG Φ w0.w [ob pv0, pD0].flatten (fun Φ' Fs v => ∃ (Do_0_0 : List Nat), v = .tuple #[] ∧ Fs = [ob pv0, Do_0_0] ∧ OSl OTMatch 84 3 Φ' Do_0_0 pv0 r)) := by
 induction N with
 | zero => intros; rename_i h; simp [m_sl_symMergeCmpFunc_i_Match] at h
 | succ N ih =>
 intro Ψ Φ pv0 pD0 p4f p4fr w0 p0 p1 p2 p3 p4 ph0 p4hF p4h r h
 refine eL func104 rfl ntmps104 rfl (L := [ob pv0, pD0]) w0 (fun hF => ?_)
 unfold m_sl_symMergeCmpFunc_i_Match at h
 refine att 8 [] rfl ?_
 refine ch h rfl ?_ ?_ <;> intro h
 ·refine att 12 [] rfl ?_
  refine lin (σ := Int × Int) (fun s => [(0, pv0), (1, iV p1), (4, .func (.func p4f) #[] p4fr.toArray), (10, iV s.1), (11, iV s.2)]) (fun s => St w0 Φ [] [ob pv0, pD0]) (fun m s => m_sl_symMergeCmpFunc_i_Match_l1 N p0 p1 p4 m s.1 s.2 = some r) (p2, p3) N h (sx [0, 0] []) (fun n1 ih1 s hm => ?_)
  obtain ⟨s1, s2⟩ := s
  have h : m_sl_symMergeCmpFunc_i_Match_l1 N p0 p1 p4 (n1 + 1) s1 s2 = some r := hm
  show WT _ _ [(0, pv0), (1, iV p1), (4, .func (.func p4f) #[] p4fr.toArray), (10, iV s1), (11, iV s2)] (St w0 Φ [] [ob pv0, pD0])
  unfold m_sl_symMergeCmpFunc_i_Match_l1 at h
  refine att 7 [] rfl ?_
  refine ch h rfl ?_ ?_ <;> intro h
  ·refine atr 7 [] rfl <| lq (q_convI Ik_3 Ik_222 rfl) rfl <| lq (q_shr rfl rfl (by decide)) rfl <| lq (q_convI Ik_222 Ik_3 rfl) rfl <| art 3 [] rfl <| WT.draw mixed (by kernel_rfl) (fun _ h => h.drew) <| aqq 3 [] rfl ?_
   obtain ⟨x1, hx1, h⟩ := bs h
   obtain ⟨cs1, F1, -, g1, hb1, hs1, r1⟩ := ph0.elS (idx_some hx1).2.2
   obtain ⟨v1, v2, rfl, rfl, h1, h2⟩ := r1
   have h3 := h1.rsl
   have h4 := h2.rsl
   refine qq (q_indexAddr Sl_35 rfl rfl ph0.rsl hx1) rfl <| qq (q_loadN Tn_84 rfl (fun w1 hw => (g1.of_eq 0 3 rfl rfl : rg _ _ _ [iV x1.Rule, v1, v2]).rangeAt hw.fro) rfl) rfl <| aqq 2 [] rfl ?_
   obtain ⟨x2, hx2, h⟩ := bs h
   obtain ⟨cs2, F2, -, g2, hb2, hs2, r2⟩ := ph0.elS (idx_some hx2).2.2
   obtain ⟨v3, v4, rfl, rfl, h5, h6⟩ := r2
   have h7 := h5.rsl
   have h8 := h6.rsl
   refine qq (q_indexAddr Sl_35 rfl rfl ph0.rsl hx2) rfl <| qq (q_loadN Tn_84 rfl (fun w1 hw => (g2.of_eq 0 3 rfl rfl : rg _ _ _ [iV x2.Rule, v3, v4]).rangeAt hw.fro) rfl) rfl ?_
   obtain ⟨x3, hx3, h⟩ := bs h
   refine qp (p_callV p4hF rfl rfl (fun w1 hw => p4h hw.frB hw.fro x1 x2 h3 h4 h7 h8 hx3)) rfl <| aqt 2 [] rfl ?_
   refine ch h rfl ?_ ?_ <;> intro h
   ·refine att 6 [] rfl ?_
    exact lb [0, 0] [] (ih1 (_, _) h)
   refine att 5 [] rfl ?_
   exact lb [0, 0] [] (ih1 (_, _) h)
  refine att 8 [] rfl ?_
  refine lin (σ := Hp × (List TMatch) × List Nat × Int) (fun s => [(0, pv0), (10, iV s1), (13, iV s.2.2.2)]) (fun s => St w0 s.1 [] [ob pv0, s.2.2.1]) (fun m s => m_sl_symMergeCmpFunc_i_Match_l2 N s1 m s.2.1 s.2.2.2 = some r ∧ (OSl OTMatch 84 3 s.1 s.2.2.1 pv0 s.2.1)) (Φ, p0, pD0, p1) N ⟨h, ph0⟩ (sx [0, 0] []) (fun n2 ih2 s hm => ?_)
  obtain ⟨Φ_1, s3, D1, s4⟩ := s
  obtain ⟨h, k1⟩ := hm
  dsimp only at h k1 ⊢
  unfold m_sl_symMergeCmpFunc_i_Match_l2 at h
  refine att 8 [] rfl ?_
  refine ch h rfl ?_ ?_ <;> intro h
  ·refine att 3 [] rfl <| WT.mix (fun _ => True) (fun _ => true) mixed (fun _ h => h.drew) <| ma 0 rfl (by kernel_rfl) (fun _ _ => trivial) rfl <| ma 1 rfl (by kernel_rfl) (fun _ _ => trivial) rfl <| ma 2 rfl (by kernel_rfl) (fun _ _ => trivial) rfl <| ma 3 rfl (by kernel_rfl) (fun _ _ => trivial) rfl <| ma 4 rfl (by kernel_rfl) (fun _ _ => trivial) rfl <| ma 5 rfl (by kernel_rfl) (fun _ _ => trivial) rfl <| ma 6 rfl (by kernel_rfl) (fun _ _ => trivial) rfl <| ma 7 rfl (by kernel_rfl) (fun _ _ => trivial) rfl ?_
   obtain ⟨x4, hx4, h⟩ := bs h
   obtain ⟨cs3, F3, -, g3, hb3, hs3, r3⟩ := k1.elS (idx_some hx4).2.2
   obtain ⟨v5, v6, rfl, rfl, h9, h10⟩ := r3
   have h11 := h9.rsl
   have h12 := h10.rsl
   refine mq 8 rfl (by kernel_rfl) (fun _ _ => trivial) (q_indexAddr Sl_35 rfl rfl k1.rsl hx4) rfl <| ma 10 rfl (by kernel_rfl) (fun _ _ => trivial) rfl <| ma 11 rfl (by kernel_rfl) (fun _ _ => trivial) rfl ?_
   obtain ⟨x5, hx5, h⟩ := bs h
   obtain ⟨cs4, F4, -, g4, hb4, hs4, r4⟩ := k1.elS (idx_some hx5).2.2
   obtain ⟨v7, v8, rfl, rfl, h13, h14⟩ := r4
   have h15 := h13.rsl
   have h16 := h14.rsl
   refine mq 12 rfl (by kernel_rfl) (fun _ _ => trivial) (q_indexAddr Sl_35 rfl rfl k1.rsl hx5) rfl ?_
   refine WM.qq2 9 13 rfl rfl (q_loadN Tn_84 rfl (fun w1 hw => (g3.of_eq 0 3 rfl rfl : rg _ _ _ [iV x4.Rule, v5, v6]).rangeAt hw.fro) rfl) (q_loadN Tn_84 rfl (fun w1 hw => (g4.of_eq 0 3 rfl rfl : rg _ _ _ [iV x5.Rule, v7, v8]).rangeAt hw.fro) rfl) (q_loadN Tn_84 rfl (fun w1 hw => (g4.of_eq 0 3 rfl rfl : rg _ _ _ [iV x5.Rule, v7, v8]).rangeAt hw.fro) rfl) (q_loadN Tn_84 rfl (fun w1 hw => (g3.of_eq 0 3 rfl rfl : rg _ _ _ [iV x4.Rule, v5, v6]).rangeAt hw.fro) rfl) rfl rfl (fun _ _ => trivial) rfl rfl (by kernel_rfl) (by kernel_rfl) (by kernel_rfl) ?_
   obtain ⟨x6, hx6, h⟩ := bs h
   obtain ⟨cs5, F5, -, g5, hb5, hs5, r5⟩ := k1.elS (idx_some hx6).2.2
   obtain ⟨v9, v10, rfl, rfl, h17, h18⟩ := r5
   have h19 := h17.rsl
   have h20 := h18.rsl
   refine mq 14 rfl (by kernel_rfl) (fun _ _ => trivial) (q_indexAddr Sl_35 rfl rfl k1.rsl hx6) rfl ?_
   refine WM.one 15 (by kernel_rfl) (mu rfl (fun _ _ _ _ _ _ => trivial) (u_sw1 (js := [0]) (Rr := [D1]) (vs := [iV x4.Rule, v5, v6]) OTMatch.lasts Sz_84 rfl rfl rfl rfl ⟨rfl, h11.one, h12.one, trivial⟩ rfl k1 (idx_some hx5).2.2 (idx_some hx4).2.2 g4 rfl g3 (fun ap => ap.q 0 rfl)) rfl ?_)
   rintro Φ_2 D2 ⟨⟨ap1, fr1⟩, h21⟩
   replace h15 := h15.fr fr1 (Dj.sub (ap1.q 0 rfl) (fun k h => hs4 k (List.mem_append.2 (.inl h))))
   replace h16 := h16.fr fr1 (Dj.sub (ap1.q 0 rfl) (fun k h => hs4 k (List.mem_append.2 (.inr h))))
   obtain ⟨x7, hx7, h⟩ := bs h
   refine mq 16 rfl (by kernel_rfl) (fun _ _ => trivial) (q_indexAddrW Sl_35 rfl rfl h21 hx7 (by simp)) rfl ?_
   refine WM.one 17 (by kernel_rfl) (mu rfl (fun _ _ _ _ _ _ => trivial) (u_sw2 (js := [0]) (Rr := [D1]) OTMatch.lasts Sz_84 rfl rfl rfl ⟨rfl, h15.one, h16.one, trivial⟩ rfl h21 (idx_some hx5).2.2 (idx_some hx4).2.2 (fun ap => ap.q 0 rfl)) rfl ?_)
   rintro Φ_3 D3 ⟨⟨ap2, fr2⟩, sp1, h22⟩
   refine WM.conv (S' := St w0 Φ_3 [] [D3, ob pv0]) (fun w1 hw => hw.merge (js := [1]) rfl (by simpa [List.append_assoc, ob_nil] using sp1)) <| WM.nil (by kernel_rfl) <| att 6 [] rfl ?_
   exact lb [1, 0] [] (ih2 (_, _, _, _) ⟨h, h22⟩)
  refine xt rfl ?_
  exact rtg [0, 0] hF resOk.none rfl (by cases h; exact fun w1 hw => ⟨D1, rfl, rfl, k1⟩)
 refine att 9 [] rfl ?_
 refine ch h rfl ?_ ?_ <;> intro h
 ·refine att 12 [] rfl ?_
  refine lin (σ := Int × Int) (fun s => [(0, pv0), (2, iV p2), (4, .func (.func p4f) #[] p4fr.toArray), (14, iV s.1), (15, iV s.2)]) (fun s => St w0 Φ [] [ob pv0, pD0]) (fun m s => m_sl_symMergeCmpFunc_i_Match_l3 N p0 p2 p4 m s.1 s.2 = some r) (p1, p2) N h (sx [0, 0] []) (fun n3 ih3 s hm => ?_)
  obtain ⟨s5, s6⟩ := s
  have h : m_sl_symMergeCmpFunc_i_Match_l3 N p0 p2 p4 (n3 + 1) s5 s6 = some r := hm
  show WT _ _ [(0, pv0), (2, iV p2), (4, .func (.func p4f) #[] p4fr.toArray), (14, iV s5), (15, iV s6)] (St w0 Φ [] [ob pv0, pD0])
  unfold m_sl_symMergeCmpFunc_i_Match_l3 at h
  refine att 7 [] rfl ?_
  refine ch h rfl ?_ ?_ <;> intro h
  ·refine atr 7 [] rfl <| lq (q_convI Ik_3 Ik_222 rfl) rfl <| lq (q_shr rfl rfl (by decide)) rfl <| lq (q_convI Ik_222 Ik_3 rfl) rfl <| art 3 [] rfl <| WT.draw mixed (by kernel_rfl) (fun _ h => h.drew) <| aqq 3 [] rfl ?_
   obtain ⟨x8, hx8, h⟩ := bs h
   obtain ⟨cs6, F6, -, g6, hb6, hs6, r6⟩ := ph0.elS (idx_some hx8).2.2
   obtain ⟨v11, v12, rfl, rfl, h23, h24⟩ := r6
   have h25 := h23.rsl
   have h26 := h24.rsl
   refine qq (q_indexAddr Sl_35 rfl rfl ph0.rsl hx8) rfl <| qq (q_loadN Tn_84 rfl (fun w1 hw => (g6.of_eq 0 3 rfl rfl : rg _ _ _ [iV x8.Rule, v11, v12]).rangeAt hw.fro) rfl) rfl <| aqq 2 [] rfl ?_
   obtain ⟨x9, hx9, h⟩ := bs h
   obtain ⟨cs7, F7, -, g7, hb7, hs7, r7⟩ := ph0.elS (idx_some hx9).2.2
   obtain ⟨v13, v14, rfl, rfl, h27, h28⟩ := r7
   have h29 := h27.rsl
   have h30 := h28.rsl
   refine qq (q_indexAddr Sl_35 rfl rfl ph0.rsl hx9) rfl <| qq (q_loadN Tn_84 rfl (fun w1 hw => (g7.of_eq 0 3 rfl rfl : rg _ _ _ [iV x9.Rule, v13, v14]).rangeAt hw.fro) rfl) rfl ?_
   obtain ⟨x10, hx10, h⟩ := bs h
   refine qp (p_callV p4hF rfl rfl (fun w1 hw => p4h hw.frB hw.fro x8 x9 h25 h26 h29 h30 hx10)) rfl <| aqt 3 [] rfl ?_
   refine ch h rfl ?_ ?_ <;> intro h
   ·refine att 6 [] rfl ?_
    exact lb [0, 0] [] (ih3 (_, _) h)
   refine att 5 [] rfl ?_
   exact lb [0, 0] [] (ih3 (_, _) h)
  refine att 8 [] rfl ?_
  refine lin (σ := Hp × (List TMatch) × List Nat × Int) (fun s => [(0, pv0), (14, iV s5), (17, iV s.2.2.2)]) (fun s => St w0 s.1 [] [ob pv0, s.2.2.1]) (fun m s => m_sl_symMergeCmpFunc_i_Match_l4 N s5 m s.2.1 s.2.2.2 = some r ∧ (OSl OTMatch 84 3 s.1 s.2.2.1 pv0 s.2.1)) (Φ, p0, pD0, p2) N ⟨h, ph0⟩ (sx [0, 0] []) (fun n4 ih4 s hm => ?_)
  obtain ⟨Φ_4, s7, D4, s8⟩ := s
  obtain ⟨h, k2⟩ := hm
  dsimp only at h k2 ⊢
  unfold m_sl_symMergeCmpFunc_i_Match_l4 at h
  refine att 7 [] rfl ?_
  refine ch h rfl ?_ ?_ <;> intro h
  ·refine att 3 [] rfl <| WT.mix (fun _ => True) (fun _ => true) mixed (fun _ h => h.drew) <| ma 0 rfl (by kernel_rfl) (fun _ _ => trivial) rfl <| ma 1 rfl (by kernel_rfl) (fun _ _ => trivial) rfl <| ma 2 rfl (by kernel_rfl) (fun _ _ => trivial) rfl <| ma 3 rfl (by kernel_rfl) (fun _ _ => trivial) rfl <| ma 4 rfl (by kernel_rfl) (fun _ _ => trivial) rfl <| ma 5 rfl (by kernel_rfl) (fun _ _ => trivial) rfl <| ma 6 rfl (by kernel_rfl) (fun _ _ => trivial) rfl <| ma 7 rfl (by kernel_rfl) (fun _ _ => trivial) rfl ?_
   obtain ⟨x11, hx11, h⟩ := bs h
   obtain ⟨cs8, F8, -, g8, hb8, hs8, r8⟩ := k2.elS (idx_some hx11).2.2
   obtain ⟨v15, v16, rfl, rfl, h31, h32⟩ := r8
   have h33 := h31.rsl
   have h34 := h32.rsl
   refine mq 8 rfl (by kernel_rfl) (fun _ _ => trivial) (q_indexAddr Sl_35 rfl rfl k2.rsl hx11) rfl <| ma 10 rfl (by kernel_rfl) (fun _ _ => trivial) rfl <| ma 11 rfl (by kernel_rfl) (fun _ _ => trivial) rfl ?_
   obtain ⟨x12, hx12, h⟩ := bs h
   obtain ⟨cs9, F9, -, g9, hb9, hs9, r9⟩ := k2.elS (idx_some hx12).2.2
   obtain ⟨v17, v18, rfl, rfl, h35, h36⟩ := r9
   have h37 := h35.rsl
   have h38 := h36.rsl
   refine mq 12 rfl (by kernel_rfl) (fun _ _ => trivial) (q_indexAddr Sl_35 rfl rfl k2.rsl hx12) rfl ?_
   refine WM.qq2 9 13 rfl rfl (q_loadN Tn_84 rfl (fun w1 hw => (g8.of_eq 0 3 rfl rfl : rg _ _ _ [iV x11.Rule, v15, v16]).rangeAt hw.fro) rfl) (q_loadN Tn_84 rfl (fun w1 hw => (g9.of_eq 0 3 rfl rfl : rg _ _ _ [iV x12.Rule, v17, v18]).rangeAt hw.fro) rfl) (q_loadN Tn_84 rfl (fun w1 hw => (g9.of_eq 0 3 rfl rfl : rg _ _ _ [iV x12.Rule, v17, v18]).rangeAt hw.fro) rfl) (q_loadN Tn_84 rfl (fun w1 hw => (g8.of_eq 0 3 rfl rfl : rg _ _ _ [iV x11.Rule, v15, v16]).rangeAt hw.fro) rfl) rfl rfl (fun _ _ => trivial) rfl rfl (by kernel_rfl) (by kernel_rfl) (by kernel_rfl) ?_
   obtain ⟨x13, hx13, h⟩ := bs h
   obtain ⟨cs10, F10, -, g10, hb10, hs10, r10⟩ := k2.elS (idx_some hx13).2.2
   obtain ⟨v19, v20, rfl, rfl, h39, h40⟩ := r10
   have h41 := h39.rsl
   have h42 := h40.rsl
   refine mq 14 rfl (by kernel_rfl) (fun _ _ => trivial) (q_indexAddr Sl_35 rfl rfl k2.rsl hx13) rfl ?_
   refine WM.one 15 (by kernel_rfl) (mu rfl (fun _ _ _ _ _ _ => trivial) (u_sw1 (js := [0]) (Rr := [D4]) (vs := [iV x11.Rule, v15, v16]) OTMatch.lasts Sz_84 rfl rfl rfl rfl ⟨rfl, h33.one, h34.one, trivial⟩ rfl k2 (idx_some hx12).2.2 (idx_some hx11).2.2 g9 rfl g8 (fun ap => ap.q 0 rfl)) rfl ?_)
   rintro Φ_5 D5 ⟨⟨ap3, fr3⟩, h43⟩
   replace h37 := h37.fr fr3 (Dj.sub (ap3.q 0 rfl) (fun k h => hs9 k (List.mem_append.2 (.inl h))))
   replace h38 := h38.fr fr3 (Dj.sub (ap3.q 0 rfl) (fun k h => hs9 k (List.mem_append.2 (.inr h))))
   obtain ⟨x14, hx14, h⟩ := bs h
   refine mq 16 rfl (by kernel_rfl) (fun _ _ => trivial) (q_indexAddrW Sl_35 rfl rfl h43 hx14 (by simp)) rfl ?_
   refine WM.one 17 (by kernel_rfl) (mu rfl (fun _ _ _ _ _ _ => trivial) (u_sw2 (js := [0]) (Rr := [D4]) OTMatch.lasts Sz_84 rfl rfl rfl ⟨rfl, h37.one, h38.one, trivial⟩ rfl h43 (idx_some hx12).2.2 (idx_some hx11).2.2 (fun ap => ap.q 0 rfl)) rfl ?_)
   rintro Φ_6 D6 ⟨⟨ap4, fr4⟩, sp2, h44⟩
   refine WM.conv (S' := St w0 Φ_6 [] [D6, ob pv0]) (fun w1 hw => hw.merge (js := [1]) rfl (by simpa [List.append_assoc, ob_nil] using sp2)) <| WM.nil (by kernel_rfl) <| att 6 [] rfl ?_
   exact lb [1, 0] [] (ih4 (_, _, _, _) ⟨h, h44⟩)
  refine xt rfl ?_
  exact rtg [0, 0] hF resOk.none rfl (by cases h; exact fun w1 hw => ⟨D4, rfl, rfl, k2⟩)
 refine atr 6 [] rfl <| lq (q_convI Ik_3 Ik_222 rfl) rfl <| lq (q_shr rfl rfl (by decide)) rfl <| lq (q_convI Ik_222 Ik_3 rfl) rfl <| art 21 [] rfl ?_
 refine cut (σ := Int × Int) (fun s => [(0, pv0), (1, iV p1), (2, iV p2), (3, iV p3), (4, .func (.func p4f) #[] p4fr.toArray), (18, iV (wz (shrI .u64 (IntKind.u64.wrap (wz (p1 + p3))) 1))), (19, iV (wz ((wz (shrI .u64 (IntKind.u64.wrap (wz (p1 + p3))) 1)) + p2))), (20, iV s.1), (21, iV s.2)]) (fun s => St w0 Φ [] [ob pv0, pD0]) (fun s => m_sl_symMergeCmpFunc_i_Match_j5 N p0 p1 p2 p3 p4 (m_sl_symMergeCmpFunc_i_Match N) s.1 s.2 = some r) (fun s hm => ?_) (fun K => ?_)
 ·clear h
  obtain ⟨s9, s10⟩ := s
  have h : m_sl_symMergeCmpFunc_i_Match_j5 N p0 p1 p2 p3 p4 (m_sl_symMergeCmpFunc_i_Match N) s9 s10 = some r := hm
  show WT _ _ [(0, pv0), (1, iV p1), (2, iV p2), (3, iV p3), (4, .func (.func p4f) #[] p4fr.toArray), (18, iV (wz (shrI .u64 (IntKind.u64.wrap (wz (p1 + p3))) 1))), (19, iV (wz ((wz (shrI .u64 (IntKind.u64.wrap (wz (p1 + p3))) 1)) + p2))), (20, iV s9), (21, iV s10)] (St w0 Φ [] [ob pv0, pD0])
  unfold m_sl_symMergeCmpFunc_i_Match_j5 at h
  refine att 8 [] rfl ?_
  refine lin (σ := Int × Int) (fun s => [(0, pv0), (1, iV p1), (2, iV p2), (3, iV p3), (4, .func (.func p4f) #[] p4fr.toArray), (18, iV (wz (shrI .u64 (IntKind.u64.wrap (wz (p1 + p3))) 1))), (19, iV (wz ((wz (shrI .u64 (IntKind.u64.wrap (wz (p1 + p3))) 1)) + p2))), (20, iV s.1), (21, iV s.2), (22, iV (wz ((wz ((wz (shrI .u64 (IntKind.u64.wrap (wz (p1 + p3))) 1)) + p2)) - 1)))]) (fun s => St w0 Φ [] [ob pv0, pD0]) (fun m s => m_sl_symMergeCmpFunc_i_Match_l6 N p0 p1 p2 p3 p4 (m_sl_symMergeCmpFunc_i_Match N) m s.1 s.2 = some r) (s9, s10) N h (sx [0, 0] []) (fun n6 ih6 s hm => ?_)
  obtain ⟨s11, s12⟩ := s
  have h : m_sl_symMergeCmpFunc_i_Match_l6 N p0 p1 p2 p3 p4 (m_sl_symMergeCmpFunc_i_Match N) (n6 + 1) s11 s12 = some r := hm
  show WT _ _ [(0, pv0), (1, iV p1), (2, iV p2), (3, iV p3), (4, .func (.func p4f) #[] p4fr.toArray), (18, iV (wz (shrI .u64 (IntKind.u64.wrap (wz (p1 + p3))) 1))), (19, iV (wz ((wz (shrI .u64 (IntKind.u64.wrap (wz (p1 + p3))) 1)) + p2))), (20, iV s11), (21, iV s12), (22, iV (wz ((wz ((wz (shrI .u64 (IntKind.u64.wrap (wz (p1 + p3))) 1)) + p2)) - 1)))] (St w0 Φ [] [ob pv0, pD0])
  unfold m_sl_symMergeCmpFunc_i_Match_l6 at h
  refine att 7 [] rfl ?_
  refine ch h rfl ?_ ?_ <;> intro h
  ·refine atr 7 [] rfl <| lq (q_convI Ik_3 Ik_222 rfl) rfl <| lq (q_shr rfl rfl (by decide)) rfl <| lq (q_convI Ik_222 Ik_3 rfl) rfl <| art 3 [] rfl <| WT.draw mixed (by kernel_rfl) (fun _ h => h.drew) <| aqq 5 [] rfl ?_
   obtain ⟨x15, hx15, h⟩ := bs h
   obtain ⟨cs11, F11, -, g11, hb11, hs11, r11⟩ := ph0.elS (idx_some hx15).2.2
   obtain ⟨v21, v22, rfl, rfl, h45, h46⟩ := r11
   have h47 := h45.rsl
   have h48 := h46.rsl
   refine qq (q_indexAddr Sl_35 rfl rfl ph0.rsl hx15) rfl <| qq (q_loadN Tn_84 rfl (fun w1 hw => (g11.of_eq 0 3 rfl rfl : rg _ _ _ [iV x15.Rule, v21, v22]).rangeAt hw.fro) rfl) rfl <| aqq 2 [] rfl ?_
   obtain ⟨x16, hx16, h⟩ := bs h
   obtain ⟨cs12, F12, -, g12, hb12, hs12, r12⟩ := ph0.elS (idx_some hx16).2.2
   obtain ⟨v23, v24, rfl, rfl, h49, h50⟩ := r12
   have h51 := h49.rsl
   have h52 := h50.rsl
   refine qq (q_indexAddr Sl_35 rfl rfl ph0.rsl hx16) rfl <| qq (q_loadN Tn_84 rfl (fun w1 hw => (g12.of_eq 0 3 rfl rfl : rg _ _ _ [iV x16.Rule, v23, v24]).rangeAt hw.fro) rfl) rfl ?_
   obtain ⟨x17, hx17, h⟩ := bs h
   refine qp (p_callV p4hF rfl rfl (fun w1 hw => p4h hw.frB hw.fro x15 x16 h47 h48 h51 h52 hx17)) rfl <| aqt 3 [] rfl ?_
   refine ch h rfl ?_ ?_ <;> intro h
   ·refine att 6 [] rfl ?_
    exact lb [0, 0] [] (ih6 (_, _) h)
   refine att 5 [] rfl ?_
   exact lb [0, 0] [] (ih6 (_, _) h)
  refine atr 15 [] rfl ?_
  obtain ⟨b1, hb_1, h⟩ := bs h
  refine WL.cutN 4 [(185, .bool b1), (0, pv0), (1, iV p1), (2, iV p2), (3, iV p3), (4, .func (.func p4f) #[] p4fr.toArray), (18, iV (wz (shrI .u64 (IntKind.u64.wrap (wz (p1 + p3))) 1))), (20, iV s11), (24, iV (wz ((wz ((wz (shrI .u64 (IntKind.u64.wrap (wz (p1 + p3))) 1)) + p2)) - s11)))] ?_ (fun K => ?_)
  rotate_left
  ·refine sp 181 hb_1 rfl (fun hb_1 => ?_) fun hb_1 => ?_
   ·refine arr 4 [] rfl ?_
    cases hb_1
    exact ku K
   ·refine arr 4 [] rfl ?_
    cases hb_1
    exact ku K
  refine en ?_
  refine cut (σ := Hp × (List TMatch) × List Nat) (fun s => [(0, pv0), (1, iV p1), (3, iV p3), (4, .func (.func p4f) #[] p4fr.toArray), (18, iV (wz (shrI .u64 (IntKind.u64.wrap (wz (p1 + p3))) 1))), (20, iV s11), (24, iV (wz ((wz ((wz (shrI .u64 (IntKind.u64.wrap (wz (p1 + p3))) 1)) + p2)) - s11)))]) (fun s => St w0 s.1 [] [ob pv0, s.2.2]) (fun s => m_sl_symMergeCmpFunc_i_Match_j7 N p1 p2 p3 p4 (m_sl_symMergeCmpFunc_i_Match N) s11 s.2.1 = some r ∧ (OSl OTMatch 84 3 s.1 s.2.2 pv0 s.2.1)) (fun s hm => ?_) (fun K => ?_)
  ·clear h
   obtain ⟨Φ_7, s13, D7⟩ := s
   obtain ⟨h, k3⟩ := hm
   dsimp only at h k3 ⊢
   unfold m_sl_symMergeCmpFunc_i_Match_j7 at h
   refine atr 7 [] rfl ?_
   obtain ⟨b2, hb_2, h⟩ := bs h
   refine WL.cutN 4 [(199, .bool b2), (0, pv0), (1, iV p1), (3, iV p3), (4, .func (.func p4f) #[] p4fr.toArray), (18, iV (wz (shrI .u64 (IntKind.u64.wrap (wz (p1 + p3))) 1))), (20, iV s11), (24, iV (wz ((wz ((wz (shrI .u64 (IntKind.u64.wrap (wz (p1 + p3))) 1)) + p2)) - s11)))] ?_ (fun K => ?_)
   rotate_left
   ·refine sp 195 hb_2 rfl (fun hb_2 => ?_) fun hb_2 => ?_
    ·refine arr 4 [] rfl ?_
     cases hb_2
     exact ku K
    ·refine arr 4 [] rfl ?_
     cases hb_2
     exact ku K
   refine en ?_
   refine cut (σ := Hp × (List TMatch) × List Nat) (fun s => [(0, pv0), (3, iV p3), (4, .func (.func p4f) #[] p4fr.toArray), (18, iV (wz (shrI .u64 (IntKind.u64.wrap (wz (p1 + p3))) 1))), (24, iV (wz ((wz ((wz (shrI .u64 (IntKind.u64.wrap (wz (p1 + p3))) 1)) + p2)) - s11)))]) (fun s => St w0 s.1 [] [ob pv0, s.2.2]) (fun s => m_sl_symMergeCmpFunc_i_Match_j8 N p1 p2 p3 p4 (m_sl_symMergeCmpFunc_i_Match N) s11 s.2.1 = some r ∧ (OSl OTMatch 84 3 s.1 s.2.2 pv0 s.2.1)) (fun s hm => ?_) (fun K => ?_)
   ·clear h
    obtain ⟨Φ_8, s14, D8⟩ := s
    obtain ⟨h, k4⟩ := hm
    dsimp only at h k4 ⊢
    unfold m_sl_symMergeCmpFunc_i_Match_j8 at h
    refine atr 6 [] rfl ?_
    obtain ⟨b3, hb_3, h⟩ := bs h
    refine WL.cutN 4 [(213, .bool b3), (0, pv0), (3, iV p3), (4, .func (.func p4f) #[] p4fr.toArray), (18, iV (wz (shrI .u64 (IntKind.u64.wrap (wz (p1 + p3))) 1))), (24, iV (wz ((wz ((wz (shrI .u64 (IntKind.u64.wrap (wz (p1 + p3))) 1)) + p2)) - s11)))] ?_ (fun K => ?_)
    rotate_left
    ·refine sp 209 hb_3 rfl (fun hb_3 => ?_) fun hb_3 => ?_
     ·refine arr 4 [] rfl ?_
      cases hb_3
      exact ku K
     ·refine arr 4 [] rfl ?_
      cases hb_3
      exact ku K
    refine en ?_
    refine ch h rfl ?_ ?_ <;> intro h
    ·refine atr 6 [] rfl ?_
     obtain ⟨x18, hx18, h⟩ := bs h
     refine lc (k_call (js := [0, 0]) (R := []) Fun_104 rfl rfl (fun w1 hw ap hl => ih (bx hw ap hl) s14 (wz (shrI .u64 (IntKind.u64.wrap (wz (p1 + p3))) 1)) (wz ((wz ((wz (shrI .u64 (IntKind.u64.wrap (wz (p1 + p3))) 1)) + p2)) - s11)) p3 p4 k4 p4hF (fun hle' => p4h (hw.frX ap hle'))  hx18)) rfl ?_
     rintro v25 Φ_9 F13 ⟨ap5, fr5, D9, rfl, rfl, h53⟩
     refine en ?_
     refine WT.fin hF resOk.none (fun w1 hw => ?_)
     cases h
     refine postG_of_St (js := [0, 0]) hw rfl ⟨D9, rfl, rfl, h53⟩
    refine WT.skip ?_
    refine WT.fin hF resOk.none (fun w1 hw => ?_)
    cases h
    refine postG_of_St (js := [0, 0]) hw rfl ⟨D8, rfl, rfl, k4⟩
   refine ch h rfl ?_ ?_ <;> intro h
   ·refine atr 6 [] rfl ?_
    obtain ⟨x19, hx19, h⟩ := bs h
    refine lc (k_call (js := [0, 0]) (R := []) Fun_104 rfl rfl (fun w1 hw ap hl => ih (bx hw ap hl) s13 p1 s11 (wz (shrI .u64 (IntKind.u64.wrap (wz (p1 + p3))) 1)) p4 k3 p4hF (fun hle' => p4h (hw.frX ap hle'))  hx19)) rfl ?_
    rintro v26 Φ_10 F14 ⟨ap6, fr6, D10, rfl, rfl, h54⟩
    refine en ?_
    exact wo [0, 0] [] (K (_, _, _) ⟨h, h54⟩)
   refine WT.skip ?_
   exact wo [0, 0] [] (K (_, _, _) ⟨h, k3⟩)
  refine ch h rfl ?_ ?_ <;> intro h
  ·refine atr 6 [] rfl ?_
   obtain ⟨x20, hx20, h⟩ := bs h
   refine lc (k_call (js := [0, 0]) (R := []) Fun_129 rfl rfl (fun w1 hw ap hl => m_sl_rotateCmpFunc_i_Match_ok N (bx hw ap hl) p0 s11 p2 (wz ((wz ((wz (shrI .u64 (IntKind.u64.wrap (wz (p1 + p3))) 1)) + p2)) - s11)) p4 ph0 p4hF (fun hle' => p4h (hw.frX ap hle'))  hx20)) rfl ?_
   rintro v27 Φ_11 F15 ⟨ap7, fr7, D11, rfl, rfl, h55⟩
   refine en ?_
   exact wo [0, 0] [] (K (_, _, _) ⟨h, h55⟩)
  refine WT.skip ?_
  exact wo [0, 0] [] (K (_, _, _) ⟨h, ph0⟩)
 refine ch h rfl ?_ ?_ <;> intro h
 ·refine att 11 [] rfl ?_
  exact wo [0, 0] [] (K (_, _) h)
 refine att 9 [] rfl ?_
 exact wo [0, 0] [] (K (_, _) h)
theorem m_sl_stableCmpFunc_i_Match_ok {p2f : Nat} {p2fr : List Value} (w0 : Base Ψ Φ [ob pv0, pD0].flatten) (p0 : (List TMatch)) (p1 : Int) (p2 : TMatch → TMatch → Option (Int)) (ph0 : OSl OTMatch 84 3 Φ pD0 pv0 p0) (p2hF : Fun prog p2f = true) (p2h : ∀ {Φ' : Hp} {w' : World}, FrH [ob pv0, pD0].flatten Φ Φ' → In Φ' w' → ∀ (p2a0 : TMatch) (p2a1 : TMatch) {p2v0_0 : Value} {p2G0_0 : List Nat} {p2v0_1 : Value} {p2G0_1 : List Nat} {p2v1_0 : Value} {p2G1_0 : List Nat} {p2v1_1 : Value} {p2G1_1 : List Nat} (_ : RSl (RI .i64) 1 Φ' p2G0_0 p2v0_0 p2a0.Ids) (_ : RSl RTBind 4 Φ' p2G0_1 p2v0_1 p2a0.Binds) (_ : RSl (RI .i64) 1 Φ' p2G1_0 p2v1_0 p2a1.Ids) (_ : RSl RTBind 4 Φ' p2G1_1 p2v1_1 p2a1.Binds) {r : Int}, p2 p2a0 p2a1 = some r → Calls prog p2f (([.agg [iV p2a0.Rule, p2v0_0, p2v0_1].toArray, .agg [iV p2a1.Rule, p2v1_0, p2v1_1].toArray] : List Value) ++ p2fr).toArray w' (Post (iV r) w')) {r : (List TMatch)} (h : m_sl_stableCmpFunc_i_Match N p0 p1 p2 = some r) :
  Calls prog 67 [pv0, iV p1, .func (.func p2f) #[] p2fr.toArray].toArray w0.w (PostG Φ w0.w [ob pv0, pD0].flatten (fun Φ' Fs v => ∃ (Do_0_0 : List Nat), v = .tuple #[] ∧ Fs = [ob pv0, Do_0_0] ∧ OSl OTMatch 84 3 Φ' Do_0_0 pv0 r)) := by
 refine eL func67 rfl ntmps67 rfl (L := [ob pv0, pD0]) w0 (fun hF => ?_)
 unfold m_sl_stableCmpFunc_i_Match at h
 refine att 12 [] rfl ?_
 refine lin (σ := Hp × (List TMatch) × List Nat × Int × Int) (fun s => [(0, pv0), (1, iV p1), (2, .func (.func p2f) #[] p2fr.toArray), (6, iV 20), (7, iV s.2.2.2.1), (8, iV s.2.2.2.2)]) (fun s => St w0 s.1 [] [ob pv0, s.2.2.1]) (fun m s => m_sl_stableCmpFunc_i_Match_l1 N p1 p2 m s.2.1 s.2.2.2.1 s.2.2.2.2 = some r ∧ (OSl OTMatch 84 3 s.1 s.2.2.1 pv0 s.2.1)) (Φ, p0, pD0, 0, 20) N ⟨h, ph0⟩ (sx [0, 0] []) (fun n1 ih1 s hm => ?_)
 obtain ⟨Φ_1, s1, D1, s2, s3⟩ := s
 obtain ⟨h, k1⟩ := hm
 dsimp only at h k1 ⊢
 unfold m_sl_stableCmpFunc_i_Match_l1 at h
 refine att 7 [] rfl ?_
 refine ch h rfl ?_ ?_ <;> intro h
 ·refine atr 8 [] rfl ?_
  obtain ⟨x1, hx1, h⟩ := bs h
  refine lc (k_call (js := [0, 0]) (R := []) Fun_103 rfl rfl (fun w1 hw ap hl => m_sl_insertionSortCmpFunc_i_Match_ok N (bx hw ap hl) s1 s2 s3 p2 k1 p2hF (fun hle' => p2h (hw.frX ap hle'))  hx1)) rfl ?_
  rintro v1 Φ_2 F1 ⟨ap1, fr1, D2, rfl, rfl, h1⟩
  refine art 13 [] rfl ?_
  exact lb [0, 0] [] (ih1 (_, _, _, _, _) ⟨h, h1⟩)
 refine atr 7 [] rfl ?_
 obtain ⟨x2, hx2, h⟩ := bs h
 refine lc (k_call (js := [0, 0]) (R := []) Fun_103 rfl rfl (fun w1 hw ap hl => m_sl_insertionSortCmpFunc_i_Match_ok N (bx hw ap hl) s1 s2 p1 p2 k1 p2hF (fun hle' => p2h (hw.frX ap hle'))  hx2)) rfl ?_
 rintro v2 Φ_3 F2 ⟨ap2, fr2, D3, rfl, rfl, h2⟩
 refine en <| blk ?_
 refine lin (σ := Hp × (List TMatch) × List Nat × Int) (fun s => [(0, pv0), (1, iV p1), (2, .func (.func p2f) #[] p2fr.toArray), (6, iV s.2.2.2)]) (fun s => St w0 s.1 [] [ob pv0, s.2.2.1]) (fun m s => m_sl_stableCmpFunc_i_Match_l2 N p1 p2 m s.2.1 s.2.2.2 = some r ∧ (OSl OTMatch 84 3 s.1 s.2.2.1 pv0 s.2.1)) (Φ_3, x2, D3, 20) N ⟨h, h2⟩ (sx [0, 0] []) (fun n2 ih2 s hm => ?_)
 obtain ⟨Φ_4, s4, D4, s5⟩ := s
 obtain ⟨h, k2⟩ := hm
 dsimp only at h k2 ⊢
 unfold m_sl_stableCmpFunc_i_Match_l2 at h
 refine att 7 [] rfl ?_
 refine ch h rfl ?_ ?_ <;> intro h
 ·refine att 11 [] rfl ?_
  refine lin (σ := Hp × (List TMatch) × List Nat × Int × Int) (fun s => [(0, pv0), (1, iV p1), (2, .func (.func p2f) #[] p2fr.toArray), (6, iV s5), (7, iV s.2.2.2.1), (8, iV s.2.2.2.2)]) (fun s => St w0 s.1 [] [ob pv0, s.2.2.1]) (fun m s => m_sl_stableCmpFunc_i_Match_l3 N p1 p2 s5 (m_sl_stableCmpFunc_i_Match_l2 N p1 p2 n2) m s.2.1 s.2.2.2.1 s.2.2.2.2 = some r ∧ (OSl OTMatch 84 3 s.1 s.2.2.1 pv0 s.2.1)) (Φ_4, s4, D4, 0, wz (2 * s5)) N ⟨h, k2⟩ (sx [0, 0] []) (fun n3 ih3 s hm => ?_)
  obtain ⟨Φ_5, s6, D5, s7, s8⟩ := s
  obtain ⟨h, k3⟩ := hm
  dsimp only at h k3 ⊢
  unfold m_sl_stableCmpFunc_i_Match_l3 at h
  refine att 7 [] rfl ?_
  refine ch h rfl ?_ ?_ <;> intro h
  ·refine atr 11 [] rfl ?_
   obtain ⟨x3, hx3, h⟩ := bs h
   refine lc (k_call (js := [0, 0]) (R := []) Fun_104 rfl rfl (fun w1 hw ap hl => m_sl_symMergeCmpFunc_i_Match_ok N (bx hw ap hl) s6 s7 (wz (s7 + s5)) s8 p2 k3 p2hF (fun hle' => p2h (hw.frX ap hle'))  hx3)) rfl ?_
   rintro v3 Φ_6 F3 ⟨ap3, fr3, D6, rfl, rfl, h3⟩
   refine art 14 [] rfl ?_
   exact lb [0, 0] [] (ih3 (_, _, _, _, _) ⟨h, h3⟩)
  refine att 15 [] rfl ?_
  refine ch h rfl ?_ ?_ <;> intro h
  ·refine atr 6 [] rfl ?_
   obtain ⟨x4, hx4, h⟩ := bs h
   refine lc (k_call (js := [0, 0]) (R := []) Fun_104 rfl rfl (fun w1 hw ap hl => m_sl_symMergeCmpFunc_i_Match_ok N (bx hw ap hl) s6 s7 (wz (s7 + s5)) p1 p2 k3 p2hF (fun hle' => p2h (hw.frX ap hle'))  hx4)) rfl ?_
   rintro v4 Φ_7 F4 ⟨ap4, fr4, D7, rfl, rfl, h4⟩
   refine art 7 [] rfl ?_
   exact lb [0, 0] [] (ih2 (_, _, _, _) ⟨h, h4⟩)
  refine att 7 [] rfl ?_
  exact lb [0, 0] [] (ih2 (_, _, _, _) ⟨h, k3⟩)
 refine xt rfl ?_
 refine WT.fin hF resOk.none (fun w1 hw => ?_)
 cases h
 refine postG_of_St (js := [0, 0]) hw rfl ⟨D4, rfl, rfl, k2⟩
theorem m_sl_SortStableFunc_Si_Match_i_Match_ok {p1f : Nat} {p1fr : List Value} (w0 : Base Ψ Φ [ob pv0, pD0].flatten) (p0 : (List TMatch)) (p1 : TMatch → TMatch → Option (Int)) (ph0 : OSl OTMatch 84 3 Φ pD0 pv0 p0) (p1hF : Fun prog p1f = true) (p1h : ∀ {Φ' : Hp} {w' : World}, FrH [ob pv0, pD0].flatten Φ Φ' → In Φ' w' → ∀ (p1a0 : TMatch) (p1a1 : TMatch) {p1v0_0 : Value} {p1G0_0 : List Nat} {p1v0_1 : Value} {p1G0_1 : List Nat} {p1v1_0 : Value} {p1G1_0 : List Nat} {p1v1_1 : Value} {p1G1_1 : List Nat} (_ : RSl (RI .i64) 1 Φ' p1G0_0 p1v0_0 p1a0.Ids) (_ : RSl RTBind 4 Φ' p1G0_1 p1v0_1 p1a0.Binds) (_ : RSl (RI .i64) 1 Φ' p1G1_0 p1v1_0 p1a1.Ids) (_ : RSl RTBind 4 Φ' p1G1_1 p1v1_1 p1a1.Binds) {r : Int}, p1 p1a0 p1a1 = some r → Calls prog p1f (([.agg [iV p1a0.Rule, p1v0_0, p1v0_1].toArray, .agg [iV p1a1.Rule, p1v1_0, p1v1_1].toArray] : List Value) ++ p1fr).toArray w' (Post (iV r) w')) {r : (List TMatch)} (h : m_sl_SortStableFunc_Si_Match_i_Match N p0 p1 = some r) :
  Calls prog 37 [pv0, .func (.func p1f) #[] p1fr.toArray].toArray w0.w (PostG Φ w0.w [ob pv0, pD0].flatten (fun Φ' Fs v => ∃ (Do_0_0 : List Nat), v = .tuple #[] ∧ Fs = [ob pv0, Do_0_0] ∧ OSl OTMatch 84 3 Φ' Do_0_0 pv0 r)) := by
 refine eL func37 rfl ntmps37 rfl (L := [ob pv0, pD0]) w0 (fun hF => ?_)
 unfold m_sl_SortStableFunc_Si_Match_i_Match at h
 refine atr 3 [] rfl <| lno ph0 rfl <| la rfl ?_
 obtain ⟨x1, hx1, h⟩ := bs h
 refine lc (k_call (js := [0, 0]) (R := []) Fun_67 rfl rfl (fun w1 hw ap hl => m_sl_stableCmpFunc_i_Match_ok N (bx hw ap hl) p0 (p0.length : Int) p1 ph0 p1hF (fun hle' => p1h (hw.frX ap hle'))  hx1)) rfl ?_
 rintro v1 Φ_1 F1 ⟨ap1, fr1, D1, rfl, rfl, h1⟩
 refine en ?_
 refine WT.fin hF resOk.none (fun w1 hw => ?_)
 cases h
 refine postG_of_St (js := [0, 0]) hw rfl ⟨D1, rfl, rfl, h1⟩
theorem m_sl_Compare_Sint_int_ok (w0 : Base Ψ Φ []) (p0 : (List Int)) (p1 : (List Int)) (ph0 : RSl (RI .i64) 1 Ψ pG0 pv0 p0) (ph1 : RSl (RI .i64) 1 Ψ pG1 pv1 p1) {r : Int} (h : m_sl_Compare_Sint_int N p0 p1 = some r) :
  CB w0 prog 70 [pv0, pv1] (iV r) := by
 refine eN func70 rfl ntmps70 rfl w0 fun hF => ?_
 unfold m_sl_Compare_Sint_int at h
 refine atr 8 [] rfl <| lnr ph0 rfl <| art 3 [] rfl ?_
 refine lin (σ := Int) (fun s => [(0, pv0), (1, pv1), (9, pv0), (10, iV (p0.length : Int)), (11, iV s)]) (fun s => St w0 Φ [] []) (fun m s => m_sl_Compare_Sint_int_l1 N p0 p1 m s = some r) (0) N h (sx [] []) (fun n1 ih1 s hm => ?_)
 revert hm; revert s; intro s1 hm
 have h : m_sl_Compare_Sint_int_l1 N p0 p1 (n1 + 1) s1 = some r := hm
 show WT _ _ [(0, pv0), (1, pv1), (9, pv0), (10, iV (p0.length : Int)), (11, iV s1)] (St w0 Φ [] [])
 unfold m_sl_Compare_Sint_int_l1 at h
 refine att 5 [] rfl ?_
 refine ch h rfl ?_ ?_ <;> intro h
 ·refine atr 6 [] rfl ?_
  obtain ⟨x1, hx1, h⟩ := bs h
  obtain ⟨cs1, F1, -, g1, hb1, hs1, r1⟩ := ph0.el (idx_some hx1).2.2
  obtain ⟨rfl, -⟩ := r1
  refine lia ph0 hx1 rfl <| lhx 0 0 g1 rfl <| arr 8 [] rfl <| lnr ph1 rfl <| la rfl <| en ?_
  refine ch h rfl ?_ ?_ <;> intro h
  ·refine att 4 [] rfl ?_
   exact rt hF h
  refine atr 5 [] rfl ?_
  obtain ⟨x2, hx2, h⟩ := bs h
  obtain ⟨cs2, F2, -, g2, hb2, hs2, r2⟩ := ph1.el (idx_some hx2).2.2
  obtain ⟨rfl, -⟩ := r2
  refine lia ph1 hx2 rfl <| lhx 0 0 g2 rfl <| arr 6 [] rfl <| qc h (m_cmp_Compare_int_ok N · x1 x2 ·) rfl rfl rfl fun x3 h => art 7 [] rfl ?_
  refine ch h rfl ?_ ?_ <;> intro h
  ·refine att 5 [] rfl ?_
   exact rt hF h
  refine att 6 [] rfl ?_
  exact lb [] [] (ih1 _ h)
 refine atr 5 [] rfl <| lnr ph0 rfl <| la rfl <| lnr ph1 rfl <| la rfl <| en ?_
 refine ch h rfl ?_ ?_ <;> intro h
 ·refine att 4 [] rfl ?_
  exact rt hF h
 refine att 5 [] rfl ?_
 exact rt hF h
theorem m_i_compareMatches_ok (w0 : Base Ψ Φ []) (p0 : TMatch) (p1 : TMatch) (ph0_0 : RSl (RI .i64) 1 Ψ pG0_0 pv0_0 p0.Ids) (ph0_1 : RSl RTBind 4 Ψ pG0_1 pv0_1 p0.Binds) (ph1_0 : RSl (RI .i64) 1 Ψ pG1_0 pv1_0 p1.Ids) (ph1_1 : RSl RTBind 4 Ψ pG1_1 pv1_1 p1.Binds) {r : Int} (h : m_i_compareMatches N p0 p1 = some r) :
  CB w0 prog 38 [.agg [iV p0.Rule, pv0_0, pv0_1].toArray, .agg [iV p1.Rule, pv1_0, pv1_1].toArray] (iV r) := by
 refine eN func38 rfl ntmps38 rfl w0 fun hF => ?_
 unfold m_i_compareMatches at h
 refine sr <| lbx rfl fun b_1 => lbx rfl fun b_2 => art 3 [] rfl <| wm [0, 1] [] rfl <| amm 6 [0, 0, 1, 32, 2, 0, 3, 0, 5, 1, 6, 32] [0, 1] rfl rfl <| mq 7 rfl (by kernel_rfl) (kN [0, 1]) (q_lenR Sl_77 rfl rfl ph0_0) rfl <| amm 2 [8, 1, 9, 0] [0, 1] rfl rfl <| mq 10 rfl (by kernel_rfl) (kN [0, 1]) (q_lenR Sl_77 rfl rfl ph1_0) rfl ?_
 obtain ⟨x1, hx1, h⟩ := bs h
 refine on1 4 (mp rfl (kS [0, 1]) (pcP rfl (m_cmp_Compare_int_ok N · p0.Rule p1.Rule hx1)) rfl ?_)
 obtain ⟨x2, hx2, h⟩ := bs h
 refine on1 11 (mp rfl (kS [0, 1]) (pcP rfl (m_cmp_Compare_int_ok N · (p0.Ids.length : Int) (p1.Ids.length : Int) hx2)) rfl ?_)
 have rc1 : RC (RI .i64) 1 Φ ([[], []] : List (List Nat)) [iV x1, iV x2] ([x1, x2] : List Int) := RC.cons (c := [iV x1]) (cells := [iV x2]) ⟨rfl, rfl⟩ rfl (RC.cons (c := [iV x2]) (cells := []) ⟨rfl, rfl⟩ rfl (RC.nil _ _ _))
 refine WM.one 12 (by kernel_rfl) (me rfl (fun _ v Φx D w1 hq hw => Kn.of Kf.nil (ai2 0 1 rfl rfl) hw) (e_lit (vs := [(0, iV x1), (1, iV x2)]) (C := #[iV x1, iV x2]) RI.lasts Sl_77 Zr_3 rfl rfl rfl rfl (fill_made MC_3_2 (fill_cons (C' := [iV x1, iV 0]) rfl rfl rfl rfl rfl (fill_cons (C' := [iV x1, iV x2]) rfl rfl rfl rfl rfl (fill_nil)))) rfl rc1 rfl (by simpa using Kw.nil)) rfl ?_)
 rintro v1 Φ_1 D1 ⟨fr1, h1⟩
 replace h1 : OSl (RI .i64) 3 1 Φ_1 [] v1 ([x1, x2] : List Int) := by simpa using h1
 obtain ⟨x3, hx3, h⟩ := bs h
 refine on1 13 (mp rfl (kS [0, 1]) (pcP rfl (m_cmp_Or_int_ok N · ([x1, x2] : List Int) h1.rsl hx3)) rfl ?_)
 refine amm 1 [14] [0, 1] rfl rfl <| WM.nil (by kernel_rfl) <| att 6 [] rfl ?_
 refine ch h rfl ?_ ?_ <;> intro h
 ·refine atr 5 [1, 32, 1, 0] rfl <| qd h (m_sl_Compare_Sint_int_ok N · p0.Ids p1.Ids ph0_0 ph1_0 ·) rfl rfl rfl fun x4 h => art 7 [] rfl ?_
  exact rt hF h
 refine att 6 [] rfl ?_
 exact rt hF h
theorem m_i_SetOf_ok (w0 : Base Ψ Φ []) (p0 : TDef) (p1 : TMem) (p2 : TStore) (ph0_0 : RSl RTRule 5 Ψ pG0_0 pv0_0 p0.Rules) (ph1_0 : RSl RTIds 1 Ψ pG1_0 pv1_0 p1.Alphas) (ph1_1 : RSl RTRow 1 Ψ pG1_1 pv1_1 p1.Rules) (ph2_0 : RSl RTItem 3 Ψ pG2_0 pv2_0 p2.Items) {r : (List TMatch)} (h : m_i_SetOf N p0 p1 p2 = some r) :
  Calls prog 11 [.agg [.string p0.Name, pv0_0].toArray, .agg [pv1_0, pv1_1].toArray, .agg [pv2_0, iV p2.Next].toArray].toArray w0.w (PostG Φ w0.w [] (fun Φ' Fs v => ∃ (sr_0_0 : Value) (Dr_0_0 : List Nat), v = sr_0_0 ∧ Fs = [ob sr_0_0, Dr_0_0] ∧ OSl OTMatch 84 3 Φ' Dr_0_0 sr_0_0 r)) := by
 refine eN func11 rfl ntmps11 rfl w0 fun hF => ?_
 unfold m_i_SetOf at h
 refine sr <| lbx rfl fun b_1 => lbx rfl fun b_2 => lbx rfl fun b_3 => arr 11 [1, 64] rfl <| lnr ph0_0 rfl <| art 3 [] rfl <| wtS <| wt0 ?_
 have k1 := OSl.nil OTMatch 84 3 Φ
 refine lin (σ := Hp × (List TMatch) × Value × List Nat × Int) (fun s => [(4, pQ b_2), (5, pQ b_3), (7, s.2.2.1), (17, pv0_0), (18, iV (p0.Rules.length : Int)), (19, iV s.2.2.2.2)]) (fun s => St w0 s.1 [(b_3, .cells #[pv2_0, iV p2.Next] 48 (0, 0)), (b_2, .cells #[pv1_0, pv1_1] 44 (0, 0))] [s.2.2.2.1, ob s.2.2.1]) (fun m s => m_i_SetOf_l1 N p0 p1 p2 m s.2.1 s.2.2.2.2 = some r ∧ (OSl OTMatch 84 3 s.1 s.2.2.2.1 s.2.2.1 s.2.1)) (Φ, ([] : List TMatch), (.slice none 0 0), [], 0) N ⟨h, k1⟩ (sx [0, 0] [0, 0]) (fun n1 ih1 s hm => ?_)
 obtain ⟨Φ_1, s1, u1, D1, s2⟩ := s
 obtain ⟨h, k2⟩ := hm
 dsimp only at h k2 ⊢
 unfold m_i_SetOf_l1 at h
 refine att 5 [] rfl ?_
 refine ch h rfl ?_ ?_ <;> intro h
 ·refine atr 6 [] rfl ?_
  obtain ⟨x1, hx1, h⟩ := bs h
  obtain ⟨cs1, F1, -, g1, hb1, hs1, r1⟩ := ph0_0.el (idx_some hx1).2.2
  obtain ⟨v1, G1, v2, G2, v3, G3, rfl, rfl, h1, h2, h3⟩ := r1
  refine lia ph0_0 hx1 rfl <| lhx 0 5 g1 rfl <| lnz Zr_76 rfl fun b_4 => la rfl <| soN 0 Sz_76 rfl ⟨rfl, rfl, h1.one, h2.one, h3.one, trivial⟩ rfl ?_
  refine arr 7 [1, 64] rfl <| lnr ph1_1 rfl <| arr 2 [] rfl ?_
  obtain ⟨b1, hb_1, h⟩ := bs h
  refine WL.cutN 9 [(38, .bool b1), (4, pQ b_2), (5, pQ b_3), (7, u1), (8, iV s2), (9, pQ b_4), (17, pv0_0), (18, iV (p0.Rules.length : Int)), (19, iV s2)] ?_ (fun K => ?_)
  rotate_left
  ·refine sp 29 hb_1 rfl (fun hb_1 => ?_) fun hb_1 => ?_
   ·refine arr 9 [] rfl ?_
    cases hb_1
    exact ku K
   ·refine arr 3 [1, 64] rfl <| ly rfl rfl ?_
    obtain ⟨x2, hx2, hb_1⟩ := bs hb_1
    obtain ⟨cs2, F2, -, g2, hb2, hs2, r2⟩ := ph1_1.el (idx_some hx2).2.2
    obtain ⟨v4, G4, rfl, hq1, h4⟩ := r2
    obtain rfl := hq1.symm
    refine lia ph1_1 hx2 rfl <| ly rfl rfl <| lf Fld_65_0 rfl rfl rfl <| ly rfl rfl <| lhx 0 0 g2 rfl <| ly rfl rfl <| lnr h4 rfl <| arr 2 [] rfl ?_
    cases hb_1
    exact ku K
  refine en ?_
  refine ch h rfl ?_ ?_ <;> intro h
  ·refine att 5 [] rfl ?_
   exact lb [0, 0] [1, 1] (ih1 (_, _, _, _, _) ⟨h, k2⟩)
  refine atr 6 [1, 64] rfl ?_
  obtain ⟨x3, hx3, h⟩ := bs h
  obtain ⟨cs3, F3, -, g3, hb3, hs3, r3⟩ := ph1_1.el (idx_some hx3).2.2
  obtain ⟨v5, G5, rfl, hq2, h5⟩ := r3
  obtain rfl := hq2.symm
  refine lia ph1_1 hx3 rfl <| lf Fld_65_0 rfl rfl rfl <| lhx 0 0 g3 rfl <| arr 11 [] rfl <| lnr h5 rfl <| la rfl ?_
  obtain ⟨x4, hx4, h⟩ := bs h
  obtain ⟨cs4, F4, -, g4, hb4, hs4, r4⟩ := h5.el (idx_some hx4).2.2
  obtain ⟨v6, G6, rfl, hq3, h6⟩ := r4
  obtain rfl := hq3.symm
  refine lia h5 hx4 rfl <| lf Fld_68_0 rfl rfl rfl <| lhx 0 0 g4 rfl <| lnr h6 rfl <| art 3 [] rfl <| wtS <| wt0 ?_
  have k3 := OSl.nil OTMatch 84 3 Φ_1
  refine lin (σ := Hp × (List TMatch) × Value × List Nat × Int) (fun s => [(4, pQ b_2), (5, pQ b_3), (7, u1), (8, iV s2), (9, pQ b_4), (11, s.2.2.1), (17, pv0_0), (18, iV (p0.Rules.length : Int)), (19, iV s2), (51, v6), (52, iV (x4.Toks.length : Int)), (53, iV s.2.2.2.2)]) (fun s => St w0 s.1 [(b_4, .cells #[.string x1.Name, iV x1.Sal, v1, v2, v3] 76 (0, 0)), (b_3, .cells #[pv2_0, iV p2.Next] 48 (0, 0)), (b_2, .cells #[pv1_0, pv1_1] 44 (0, 0))] [s.2.2.2.1, ob s.2.2.1, D1, ob u1]) (fun m s => m_i_SetOf_l2 N p2 s1 s2 (m_i_SetOf_l1 N p0 p1 p2 n1) x1 x4 m s.2.1 s.2.2.2.2 = some r ∧ (OSl OTMatch 84 3 s.1 D1 u1 s1) ∧ (OSl OTMatch 84 3 s.1 s.2.2.2.1 s.2.2.1 s.2.1)) (Φ_1, ([] : List TMatch), (.slice none 0 0), [], 0) N ⟨h, k2, k3⟩ (sx [0, 0, 0, 0] [0, 0, 0]) (fun n2 ih2 s hm => ?_)
  obtain ⟨Φ_2, s3, u2, D2, s4⟩ := s
  obtain ⟨h, k2, k4⟩ := hm
  dsimp only at h k2 k4 ⊢
  unfold m_i_SetOf_l2 at h
  refine att 5 [] rfl ?_
  refine ch h rfl ?_ ?_ <;> intro h
  ·refine atr 5 [] rfl ?_
   obtain ⟨x5, hx5, h⟩ := bs h
   obtain ⟨cs5, F5, -, g5, hb5, hs5, r5⟩ := h6.el (idx_some hx5).2.2
   obtain ⟨v7, G7, v8, G8, rfl, rfl, h7, h8⟩ := r5
   refine lia h6 hx5 rfl <| lhx 0 2 g5 rfl <| lnz Zr_79 rfl fun b_5 => soN 0 Sz_79 rfl ⟨h7.one, h8.one, trivial⟩ rfl ?_
   refine arr 7 [37, 66, 0, 0] rfl <| kab h rfl rfl rfl (fun b z q => m_i_BindsFor_ok N b x1 p2 x5.Ids (h1.y z) (h2.y z) (h3.y z) (ph2_0.y z) (h7.y z) q) ?_
   rintro x6 h v9 Φ_3 F6 ⟨ap1, fr1, v10, rfl, rfl, h9⟩
   replace k2 := k2.fr fr1 (ap1.q 3 rfl) (ap1.q 2 rfl)
   replace k4 := k4.fr fr1 (ap1.q 1 rfl) (ap1.q 0 rfl)
   refine arr 10 [] rfl ?_
   obtain ⟨b2, hb_2, h⟩ := bs h
   refine WL.cutN 3 [(69, .bool b2), (4, pQ b_2), (5, pQ b_3), (7, u1), (8, iV s2), (9, pQ b_4), (11, u2), (13, pQ b_5), (14, v10), (17, pv0_0), (18, iV (p0.Rules.length : Int)), (19, iV s2), (51, v6), (52, iV (x4.Toks.length : Int)), (53, iV s4)] ?_ (fun K => ?_)
   rotate_left
   ·refine sp 66 hb_2 rfl (fun hb_2 => ?_) fun hb_2 => ?_
    ·refine ly rfl rfl <| ld2 Tn_79 0 rfl <| ly rfl rfl <| qd hb_2 (m_i_isFree_ok N · x5 h7 h8 ·) rfl rfl rfl fun x7 hb_2 => la rfl ?_
     cases hb_2
     exact ku K
    ·refine arr 3 [] rfl ?_
     cases hb_2
     exact ku K
   refine la rfl ?_
   obtain ⟨b3, hb_3, h⟩ := bs h
   refine WL.cutN 5 [(75, .bool b3), (4, pQ b_2), (5, pQ b_3), (7, u1), (8, iV s2), (9, pQ b_4), (11, u2), (13, pQ b_5), (14, v10), (17, pv0_0), (18, iV (p0.Rules.length : Int)), (19, iV s2), (51, v6), (52, iV (x4.Toks.length : Int)), (53, iV s4)] ?_ (fun K => ?_)
   rotate_left
   ·refine sp 70 hb_3 rfl (fun hb_3 => ?_) fun hb_3 => ?_
    ·refine arr 3 [3, 32] rfl <| ly rfl rfl <| qz hb_3 (fun b z q => m_i_HoldAll_ok N b x1.Conds x6.1 (h2.y z) h9.rsl q) rfl rfl rfl fun x8 hb_3 => la rfl ?_
     cases hb_3
     exact ku K
    ·refine arr 5 [] rfl ?_
     cases hb_3
     exact ku K
   refine en ?_
   refine ch h rfl ?_ ?_ <;> intro h
   ·refine atr 5 [0, 0] rfl <| kab h rfl rfl rfl (fun b z q => m_sl_Clone_Sint_int_ok N b x5.Ids (h7.y z) q) ?_
    rintro x9 h v11 Φ_4 F7 ⟨ap2, fr2, v12, rfl, rfl, h10⟩
    replace k2 := k2.fr fr2 (ap2.q 4 rfl) (ap2.q 3 rfl)
    replace k4 := k4.fr fr2 (ap2.q 2 rfl) (ap2.q 1 rfl)
    replace h9 := h9.fr fr2 (ap2.q 0 rfl) dN
    refine la rfl <| lq (q_build (vs := [(0, iV s2), (1, v11), (2, v10)]) (C := #[iV s2, v11, v10]) Pl_84 Zr_84 rfl (fill_cons (C' := [iV s2, .slice none 0 0, .slice none 0 0]) rfl rfl rfl rfl rfl (fill_cons (C' := [iV s2, v11, .slice none 0 0]) rfl (one_cells h10.one) rfl rfl rfl (fill_cons (C' := [iV s2, v11, v10]) rfl (one_cells h9.one) rfl rfl rfl (fill_nil))))) rfl ?_
    have rc1 : RC OTMatch 3 Φ_4 ([(ob v11 ++ []) ++ ((ob v10 ++ []))] : List (List Nat)) [iV s2, v11, v10] ([(⟨s2, x9, x6.1⟩ : TMatch)] : List TMatch) := RC.cons (c := [iV s2, v11, v10]) (cells := []) ⟨v11, v10, rfl, rfl, h10, h9⟩ rfl (RC.nil _ _ _)
    refine le' (e_lit (vs := [(0, .agg [iV s2, v11, v10].toArray)]) (C := #[iV s2, v11, v10]) OTMatch.lasts Sl_35 Zr_84 rfl rfl rfl rfl (fill_made MC_84_1 (fill_cons (C' := [iV s2, v11, v10]) rfl rfl rfl rfl rfl (fill_nil))) rfl rc1 rfl (RC.kn OTMatch.knows rc1)) rfl ?_
    rintro v13 Φ_5 D3 ⟨fr3, h11⟩
    replace h11 : OSl OTMatch 84 3 Φ_5 ((ob v11 ++ []) ++ ((ob v10 ++ []))) v13 ([(⟨s2, x9, x6.1⟩ : TMatch)] : List TMatch) := by simpa [List.append_assoc] using h11
    replace k2 := k2.f0 fr3
    replace k4 := k4.f0 fr3
    refine wlL [((ob v11 ++ []) ++ ((ob v10 ++ []))), ob v13, D2, ob u2, D1, ob u1] (smg [1, 1] rfl (SP.eq (by simp [List.append_assoc, ob_nil]))) ?_
    obtain ⟨x10, hx10, h⟩ := bs h
    refine le' (e_appO OTMatch.lasts OTMatch.one Sl_35 Ei_84 rfl rfl rfl rfl rfl (js := [3]) (Rr := [((ob v11 ++ []) ++ ((ob v10 ++ []))), ob v13, D2, D1, ob u1]) rfl k4 h11 (fun ap => ap.q 2 rfl) (fun ap => ap.q 0 rfl) hx10) rfl ?_
    rintro v14 Φ_6 D4 ⟨⟨ap3, fr4⟩, h12⟩
    replace k2 := k2.fr fr4 (ap3.q 4 rfl) (ap3.q 3 rfl)
    refine wlL [(D2 ++ ((ob v11 ++ []) ++ ((ob v10 ++ [])))), ob v14, ob v13, D1, ob u1] (smg [3, 1] rfl (SP.eq (by simp))) <| art 7 [] rfl ?_
    exact lb [0, 0, 1, 1] [1, 1, 1] (ih2 (_, _, _, _, _) ⟨h, k2, h12⟩)
   refine att 6 [] rfl ?_
   exact lb [1, 1, 1, 1] [1, 1, 1] (ih2 (_, _, _, _, _) ⟨h, k2, k4⟩)
  refine atr 4 [] rfl <| kcb [1, 0] h rfl rfl rfl rfl (fun b ap z q => m_sl_SortStableFunc_Si_Match_i_Match_ok N b s3 (m_i_compareMatches N) k4 Fun_38 (fun hle' hin a0 a1 => fun f0 f1 f2 f3 => fun hr => m_i_compareMatches_ok N (ba hin) a0 a1 f0 f1 f2 f3 hr) q) ?_
  rintro x11 h v15 Φ_7 F8 ⟨ap4, fr5, D5, rfl, rfl, h13⟩
  replace k2 := k2.fr fr5 (ap4.q 1 rfl) (ap4.q 0 rfl)
  refine arr 4 [] rfl ?_
  obtain ⟨x12, hx12, h⟩ := bs h
  refine le' (e_appO OTMatch.lasts OTMatch.one Sl_35 Ei_84 rfl rfl rfl rfl rfl (js := [3]) (Rr := [ob u2, D5, D1]) rfl k2 h13 (fun ap => ap.q 2 rfl) (fun ap => ap.q 1 rfl) hx12) rfl ?_
  rintro v16 Φ_8 D6 ⟨⟨ap5, fr6⟩, h14⟩
  refine wlL [(D1 ++ D5), ob v16, ob u2] (smg [3, 2] rfl (SP.eq (by simp))) <| art 7 [] rfl ?_
  exact lb [0, 0] [1, 1] (ih1 (_, _, _, _, _) ⟨h, h14⟩)
 refine att 6 [] rfl ?_
 exact rtg [1, 0] hF (resOk.one rfl) rfl (by cases h; exact fun w1 hw => ⟨u1, D1, rfl, rfl, k2⟩)
theorem m_l_eqIntS_ok (w0 : Base Ψ Φ []) (p0 : (List Int)) (p1 : (List Int)) (ph0 : RSl (RI .i64) 1 Ψ pG0 pv0 p0) (ph1 : RSl (RI .i64) 1 Ψ pG1 pv1 p1) {r : Bool} (h : m_l_eqIntS N p0 p1 = some r) :
  CB w0 prog 71 [pv0, pv1] (.bool r) := by
 refine eN func71 rfl ntmps71 rfl w0 fun hF => ?_
 unfold m_l_eqIntS at h
 refine atr 8 [] rfl <| lnr ph0 rfl <| la rfl <| lnr ph1 rfl <| la rfl <| en ?_
 refine ch h rfl ?_ ?_ <;> intro h
 ·refine att 4 [] rfl ?_
  exact rt hF h
 refine att 7 [] rfl ?_
 refine lin (σ := Int) (fun s => [(0, pv0), (1, pv1), (5, iV s)]) (fun s => St w0 Φ [] []) (fun m s => m_l_eqIntS_l1 N p0 p1 m s = some r) (0) N h (sx [] []) (fun n1 ih1 s hm => ?_)
 revert hm; revert s; intro s1 hm
 have h : m_l_eqIntS_l1 N p0 p1 (n1 + 1) s1 = some r := hm
 show WT _ _ [(0, pv0), (1, pv1), (5, iV s1)] (St w0 Φ [] [])
 unfold m_l_eqIntS_l1 at h
 refine atr 5 [] rfl <| lnr ph0 rfl <| la rfl <| en ?_
 refine ch h rfl ?_ ?_ <;> intro h
 ·refine att 4 [] rfl <| WT.draw mixed (by kernel_rfl) (fun _ h => h.drew) <| aqq 2 [] rfl ?_
  obtain ⟨x1, hx1, h⟩ := bs h
  obtain ⟨cs1, F1, -, g1, hb1, hs1, r1⟩ := ph0.el (idx_some hx1).2.2
  obtain ⟨rfl, -⟩ := r1
  refine qq (q_indexAddr Sl_77 rfl rfl ph0 hx1) rfl <| qq (q_load1 T1_3 rfl (fun w1 hw => (g1.of_eq 0 1 rfl rfl : rg _ _ _ [iV x1]).rangeAt hw.in0)) rfl <| aqq 2 [] rfl ?_
  obtain ⟨x2, hx2, h⟩ := bs h
  obtain ⟨cs2, F2, -, g2, hb2, hs2, r2⟩ := ph1.el (idx_some hx2).2.2
  obtain ⟨rfl, -⟩ := r2
  refine qq (q_indexAddr Sl_77 rfl rfl ph1 hx2) rfl <| qq (q_load1 T1_3 rfl (fun w1 hw => (g2.of_eq 0 1 rfl rfl : rg _ _ _ [iV x2]).rangeAt hw.in0)) rfl <| aqt 2 [] rfl ?_
  refine ch h rfl ?_ ?_ <;> intro h
  ·refine att 4 [] rfl ?_
   exact rt hF h
  refine att 7 [] rfl ?_
  exact lb [] [] (ih1 _ h)
 refine att 5 [] rfl ?_
 exact rt hF h
theorem m_l_eqVal_ok  (w0 : Base Ψ Φ []) (p0 : TVal) (p1 : TVal)  {r : Bool} (h : m_l_eqVal N p0 p1 = some r) :
  CB w0 prog 130 [.agg [iV p0.K, iV p0.N, .string p0.S].toArray, .agg [iV p1.K, iV p1.N, .string p1.S].toArray] (.bool r) := by
 refine eN func130 rfl ntmps130 rfl w0 fun hF => ?_
 unfold m_l_eqVal at h
 refine sr <| lbx rfl fun b_1 => lbx rfl fun b_2 => art 11 [0, 32, 0, 0] rfl ?_
 refine ch h rfl ?_ ?_ <;> intro h
 ·refine att 4 [] rfl ?_
  exact rt hF h
 refine att 10 [1, 32, 1, 0] rfl ?_
 refine ch h rfl ?_ ?_ <;> intro h
 ·refine att 4 [] rfl ?_
  exact rt hF h
 refine att 10 [2, 32, 2, 0] rfl ?_
 refine ch h rfl ?_ ?_ <;> intro h
 ·refine att 4 [] rfl ?_
  exact rt hF h
 refine att 5 [] rfl ?_
 exact rt hF h
theorem m_l_eqBind_ok  (w0 : Base Ψ Φ []) (p0 : TBind) (p1 : TBind)  {r : Bool} (h : m_l_eqBind N p0 p1 = some r) :
  CB w0 prog 106 [.agg [.string p0.Name, iV p0.V.K, iV p0.V.N, .string p0.V.S].toArray, .agg [.string p1.Name, iV p1.V.K, iV p1.V.N, .string p1.V.S].toArray] (.bool r) := by
 refine eN func106 rfl ntmps106 rfl w0 fun hF => ?_
 unfold m_l_eqBind at h
 refine sr <| lbx rfl fun b_1 => lbx rfl fun b_2 => art 11 [0, 32, 0, 0] rfl ?_
 refine ch h rfl ?_ ?_ <;> intro h
 ·refine att 4 [] rfl ?_
  exact rt hF h
 refine atr 8 [1, 35, 1, 3] rfl <| qc h (m_l_eqVal_ok N · p0.V p1.V ·) rfl rfl rfl fun x1 h => la rfl <| en ?_
 refine ch h rfl ?_ ?_ <;> intro h
 ·refine att 4 [] rfl ?_
  exact rt hF h
 refine att 5 [] rfl ?_
 exact rt hF h
theorem m_l_eqBindS_ok (w0 : Base Ψ Φ []) (p0 : (List TBind)) (p1 : (List TBind)) (ph0 : RSl RTBind 4 Ψ pG0 pv0 p0) (ph1 : RSl RTBind 4 Ψ pG1 pv1 p1) {r : Bool} (h : m_l_eqBindS N p0 p1 = some r) :
  CB w0 prog 72 [pv0, pv1] (.bool r) := by
 refine eN func72 rfl ntmps72 rfl w0 fun hF => ?_
 unfold m_l_eqBindS at h
 refine atr 8 [] rfl <| lnr ph0 rfl <| la rfl <| lnr ph1 rfl <| la rfl <| en ?_
 refine ch h rfl ?_ ?_ <;> intro h
 ·refine att 4 [] rfl ?_
  exact rt hF h
 refine att 7 [] rfl ?_
 refine lin (σ := Int) (fun s => [(0, pv0), (1, pv1), (5, iV s)]) (fun s => St w0 Φ [] []) (fun m s => m_l_eqBindS_l1 N p0 p1 m s = some r) (0) N h (sx [] []) (fun n1 ih1 s hm => ?_)
 revert hm; revert s; intro s1 hm
 have h : m_l_eqBindS_l1 N p0 p1 (n1 + 1) s1 = some r := hm
 show WT _ _ [(0, pv0), (1, pv1), (5, iV s1)] (St w0 Φ [] [])
 unfold m_l_eqBindS_l1 at h
 refine atr 5 [] rfl <| lnr ph0 rfl <| la rfl <| en ?_
 refine ch h rfl ?_ ?_ <;> intro h
 ·refine att 4 [] rfl <| WT.draw mixed (by kernel_rfl) (fun _ h => h.drew) <| aqq 2 [] rfl ?_
  obtain ⟨x1, hx1, h⟩ := bs h
  obtain ⟨cs1, F1, -, g1, hb1, hs1, r1⟩ := ph0.el (idx_some hx1).2.2
  obtain ⟨rfl, -⟩ := r1
  refine qq (q_indexAddr Sl_69 rfl rfl ph0 hx1) rfl <| qq (q_loadN Tn_164 rfl (fun w1 hw => (g1.of_eq 0 4 rfl rfl : rg _ _ _ [.string x1.Name, iV x1.V.K, iV x1.V.N, .string x1.V.S]).rangeAt hw.in0) rfl) rfl <| aqq 2 [] rfl ?_
  obtain ⟨x2, hx2, h⟩ := bs h
  obtain ⟨cs2, F2, -, g2, hb2, hs2, r2⟩ := ph1.el (idx_some hx2).2.2
  obtain ⟨rfl, -⟩ := r2
  refine qq (q_indexAddr Sl_69 rfl rfl ph1 hx2) rfl <| qq (q_loadN Tn_164 rfl (fun w1 hw => (g2.of_eq 0 4 rfl rfl : rg _ _ _ [.string x2.Name, iV x2.V.K, iV x2.V.N, .string x2.V.S]).rangeAt hw.in0) rfl) rfl ?_
  obtain ⟨x3, hx3, h⟩ := bs h
  refine qp (p_call Fun_106 rfl (fun w1 hw => m_l_eqBind_ok N (ba hw.fro) x1 x2 hx3)) rfl <| aqt 2 [] rfl ?_
  refine ch h rfl ?_ ?_ <;> intro h
  ·refine att 4 [] rfl ?_
   exact rt hF h
  refine att 7 [] rfl ?_
  exact lb [] [] (ih1 _ h)
 refine att 5 [] rfl ?_
 exact rt hF h
theorem m_l_eqMatch_ok (w0 : Base Ψ Φ []) (p0 : TMatch) (p1 : TMatch) (ph0_0 : RSl (RI .i64) 1 Ψ pG0_0 pv0_0 p0.Ids) (ph0_1 : RSl RTBind 4 Ψ pG0_1 pv0_1 p0.Binds) (ph1_0 : RSl (RI .i64) 1 Ψ pG1_0 pv1_0 p1.Ids) (ph1_1 : RSl RTBind 4 Ψ pG1_1 pv1_1 p1.Binds) {r : Bool} (h : m_l_eqMatch N p0 p1 = some r) :
  CB w0 prog 39 [.agg [iV p0.Rule, pv0_0, pv0_1].toArray, .agg [iV p1.Rule, pv1_0, pv1_1].toArray] (.bool r) := by
 refine eN func39 rfl ntmps39 rfl w0 fun hF => ?_
 unfold m_l_eqMatch at h
 refine sr <| lbx rfl fun b_1 => lbx rfl fun b_2 => art 11 [0, 32, 0, 0] rfl ?_
 refine ch h rfl ?_ ?_ <;> intro h
 ·refine att 4 [] rfl ?_
  exact rt hF h
 refine atr 8 [1, 32, 1, 0] rfl <| qd h (m_l_eqIntS_ok N · p0.Ids p1.Ids ph0_0 ph1_0 ·) rfl rfl rfl fun x1 h => la rfl <| en ?_
 refine ch h rfl ?_ ?_ <;> intro h
 ·refine att 4 [] rfl ?_
  exact rt hF h
 refine atr 8 [2, 32, 2, 0] rfl <| qd h (m_l_eqBindS_ok N · p0.Binds p1.Binds ph0_1 ph1_1 ·) rfl rfl rfl fun x2 h => la rfl <| en ?_
 refine ch h rfl ?_ ?_ <;> intro h
 ·refine att 4 [] rfl ?_
  exact rt hF h
 refine att 5 [] rfl ?_
 exact rt hF h
theorem m_l_eqMatchS_ok (w0 : Base Ψ Φ []) (p0 : (List TMatch)) (p1 : (List TMatch)) (ph0 : RSl RTMatch 3 Ψ pG0 pv0 p0) (ph1 : RSl RTMatch 3 Ψ pG1 pv1 p1) {r : Bool} (h : m_l_eqMatchS N p0 p1 = some r) :
  CB w0 prog 12 [pv0, pv1] (.bool r) := by
 refine eN func12 rfl ntmps12 rfl w0 fun hF => ?_
 unfold m_l_eqMatchS at h
 refine atr 8 [] rfl <| lnr ph0 rfl <| la rfl <| lnr ph1 rfl <| la rfl <| en ?_
 refine ch h rfl ?_ ?_ <;> intro h
 ·refine att 4 [] rfl ?_
  exact rt hF h
 refine att 7 [] rfl ?_
 refine lin (σ := Int) (fun s => [(0, pv0), (1, pv1), (5, iV s)]) (fun s => St w0 Φ [] []) (fun m s => m_l_eqMatchS_l1 N p0 p1 m s = some r) (0) N h (sx [] []) (fun n1 ih1 s hm => ?_)
 revert hm; revert s; intro s1 hm
 have h : m_l_eqMatchS_l1 N p0 p1 (n1 + 1) s1 = some r := hm
 show WT _ _ [(0, pv0), (1, pv1), (5, iV s1)] (St w0 Φ [] [])
 unfold m_l_eqMatchS_l1 at h
 refine atr 5 [] rfl <| lnr ph0 rfl <| la rfl <| en ?_
 refine ch h rfl ?_ ?_ <;> intro h
 ·refine att 4 [] rfl <| WT.draw mixed (by kernel_rfl) (fun _ h => h.drew) <| aqq 2 [] rfl ?_
  obtain ⟨x1, hx1, h⟩ := bs h
  obtain ⟨cs1, F1, -, g1, hb1, hs1, r1⟩ := ph0.el (idx_some hx1).2.2
  obtain ⟨v1, G1, v2, G2, rfl, rfl, h1, h2⟩ := r1
  refine qq (q_indexAddr Sl_35 rfl rfl ph0 hx1) rfl <| qq (q_loadN Tn_84 rfl (fun w1 hw => (g1.of_eq 0 3 rfl rfl : rg _ _ _ [iV x1.Rule, v1, v2]).rangeAt hw.in0) rfl) rfl <| aqq 2 [] rfl ?_
  obtain ⟨x2, hx2, h⟩ := bs h
  obtain ⟨cs2, F2, -, g2, hb2, hs2, r2⟩ := ph1.el (idx_some hx2).2.2
  obtain ⟨v3, G3, v4, G4, rfl, rfl, h3, h4⟩ := r2
  refine qq (q_indexAddr Sl_35 rfl rfl ph1 hx2) rfl <| qq (q_loadN Tn_84 rfl (fun w1 hw => (g2.of_eq 0 3 rfl rfl : rg _ _ _ [iV x2.Rule, v3, v4]).rangeAt hw.in0) rfl) rfl ?_
  obtain ⟨x3, hx3, h⟩ := bs h
  refine qp (p_call Fun_39 rfl (fun w1 hw => m_l_eqMatch_ok N (ba hw.in0) x1 x2 h1 h2 h3 h4 hx3)) rfl <| aqt 2 [] rfl ?_
  refine ch h rfl ?_ ?_ <;> intro h
  ·refine att 4 [] rfl ?_
   exact rt hF h
  refine att 7 [] rfl ?_
  exact lb [] [] (ih1 _ h)
 refine att 5 [] rfl ?_
 exact rt hF h
theorem m_l_eqArg_ok  (w0 : Base Ψ Φ []) (p0 : TArg) (p1 : TArg)  {r : Bool} (h : m_l_eqArg N p0 p1 = some r) :
  CB w0 prog 150 [.agg [iV p0.K, .string p0.S, iV p0.V.K, iV p0.V.N, .string p0.V.S].toArray, .agg [iV p1.K, .string p1.S, iV p1.V.K, iV p1.V.N, .string p1.V.S].toArray] (.bool r) := by
 refine eN func150 rfl ntmps150 rfl w0 fun hF => ?_
 unfold m_l_eqArg at h
 refine sr <| lbx rfl fun b_1 => lbx rfl fun b_2 => art 11 [0, 32, 0, 0] rfl ?_
 refine ch h rfl ?_ ?_ <;> intro h
 ·refine att 4 [] rfl ?_
  exact rt hF h
 refine att 10 [1, 32, 1, 0] rfl ?_
 refine ch h rfl ?_ ?_ <;> intro h
 ·refine att 4 [] rfl ?_
  exact rt hF h
 refine atr 8 [2, 35, 2, 3] rfl <| qc h (m_l_eqVal_ok N · p0.V p1.V ·) rfl rfl rfl fun x1 h => la rfl <| en ?_
 refine ch h rfl ?_ ?_ <;> intro h
 ·refine att 4 [] rfl ?_
  exact rt hF h
 refine att 5 [] rfl ?_
 exact rt hF h
theorem m_l_eqArgS_ok (w0 : Base Ψ Φ []) (p0 : (List TArg)) (p1 : (List TArg)) (ph0 : RSl RTArg 5 Ψ pG0 pv0 p0) (ph1 : RSl RTArg 5 Ψ pG1 pv1 p1) {r : Bool} (h : m_l_eqArgS N p0 p1 = some r) :
  CB w0 prog 149 [pv0, pv1] (.bool r) := by
 refine eN func149 rfl ntmps149 rfl w0 fun hF => ?_
 unfold m_l_eqArgS at h
 refine atr 8 [] rfl <| lnr ph0 rfl <| la rfl <| lnr ph1 rfl <| la rfl <| en ?_
 refine ch h rfl ?_ ?_ <;> intro h
 ·refine att 4 [] rfl ?_
  exact rt hF h
 refine att 7 [] rfl ?_
 refine lin (σ := Int) (fun s => [(0, pv0), (1, pv1), (5, iV s)]) (fun s => St w0 Φ [] []) (fun m s => m_l_eqArgS_l1 N p0 p1 m s = some r) (0) N h (sx [] []) (fun n1 ih1 s hm => ?_)
 revert hm; revert s; intro s1 hm
 have h : m_l_eqArgS_l1 N p0 p1 (n1 + 1) s1 = some r := hm
 show WT _ _ [(0, pv0), (1, pv1), (5, iV s1)] (St w0 Φ [] [])
 unfold m_l_eqArgS_l1 at h
 refine atr 5 [] rfl <| lnr ph0 rfl <| la rfl <| en ?_
 refine ch h rfl ?_ ?_ <;> intro h
 ·refine att 4 [] rfl <| WT.draw mixed (by kernel_rfl) (fun _ h => h.drew) <| aqq 2 [] rfl ?_
  obtain ⟨x1, hx1, h⟩ := bs h
  obtain ⟨cs1, F1, -, g1, hb1, hs1, r1⟩ := ph0.el (idx_some hx1).2.2
  obtain ⟨rfl, -⟩ := r1
  refine qq (q_indexAddr Sl_122 rfl rfl ph0 hx1) rfl <| qq (q_loadN Tn_135 rfl (fun w1 hw => (g1.of_eq 0 5 rfl rfl : rg _ _ _ [iV x1.K, .string x1.S, iV x1.V.K, iV x1.V.N, .string x1.V.S]).rangeAt hw.in0) rfl) rfl <| aqq 2 [] rfl ?_
  obtain ⟨x2, hx2, h⟩ := bs h
  obtain ⟨cs2, F2, -, g2, hb2, hs2, r2⟩ := ph1.el (idx_some hx2).2.2
  obtain ⟨rfl, -⟩ := r2
  refine qq (q_indexAddr Sl_122 rfl rfl ph1 hx2) rfl <| qq (q_loadN Tn_135 rfl (fun w1 hw => (g2.of_eq 0 5 rfl rfl : rg _ _ _ [iV x2.K, .string x2.S, iV x2.V.K, iV x2.V.N, .string x2.V.S]).rangeAt hw.in0) rfl) rfl ?_
  obtain ⟨x3, hx3, h⟩ := bs h
  refine qp (p_call Fun_150 rfl (fun w1 hw => m_l_eqArg_ok N (ba hw.fro) x1 x2 hx3)) rfl <| aqt 2 [] rfl ?_
  refine ch h rfl ?_ ?_ <;> intro h
  ·refine att 4 [] rfl ?_
   exact rt hF h
  refine att 7 [] rfl ?_
  exact lb [] [] (ih1 _ h)
 refine att 5 [] rfl ?_
 exact rt hF h
theorem m_l_eqPat_ok (w0 : Base Ψ Φ []) (p0 : TPat) (p1 : TPat) (ph0_0 : RSl RTArg 5 Ψ pG0_0 pv0_0 p0.Args) (ph1_0 : RSl RTArg 5 Ψ pG1_0 pv1_0 p1.Args) {r : Bool} (h : m_l_eqPat N p0 p1 = some r) :
  CB w0 prog 131 [.agg [.string p0.Kind, pv0_0, .bool p0.Not].toArray, .agg [.string p1.Kind, pv1_0, .bool p1.Not].toArray] (.bool r) := by
 refine eN func131 rfl ntmps131 rfl w0 fun hF => ?_
 unfold m_l_eqPat at h
 refine sr <| lbx rfl fun b_1 => lbx rfl fun b_2 => art 11 [0, 32, 0, 0] rfl ?_
 refine ch h rfl ?_ ?_ <;> intro h
 ·refine att 4 [] rfl ?_
  exact rt hF h
 refine atr 8 [1, 32, 1, 0] rfl <| qd h (m_l_eqArgS_ok N · p0.Args p1.Args ph0_0 ph1_0 ·) rfl rfl rfl fun x1 h => la rfl <| en ?_
 refine ch h rfl ?_ ?_ <;> intro h
 ·refine att 4 [] rfl ?_
  exact rt hF h
 refine atr 8 [2, 32, 2, 0] rfl <| lq (q_bne Bo_4 rfl rfl) rfl <| en ?_
 refine ch h rfl ?_ ?_ <;> intro h
 ·refine att 4 [] rfl ?_
  exact rt hF h
 refine att 5 [] rfl ?_
 exact rt hF h
theorem m_l_eqPatS_ok (w0 : Base Ψ Φ []) (p0 : (List TPat)) (p1 : (List TPat)) (ph0 : RSl RTPat 3 Ψ pG0 pv0 p0) (ph1 : RSl RTPat 3 Ψ pG1 pv1 p1) {r : Bool} (h : m_l_eqPatS N p0 p1 = some r) :
  CB w0 prog 107 [pv0, pv1] (.bool r) := by
 refine eN func107 rfl ntmps107 rfl w0 fun hF => ?_
 unfold m_l_eqPatS at h
 refine atr 8 [] rfl <| lnr ph0 rfl <| la rfl <| lnr ph1 rfl <| la rfl <| en ?_
 refine ch h rfl ?_ ?_ <;> intro h
 ·refine att 4 [] rfl ?_
  exact rt hF h
 refine att 7 [] rfl ?_
 refine lin (σ := Int) (fun s => [(0, pv0), (1, pv1), (5, iV s)]) (fun s => St w0 Φ [] []) (fun m s => m_l_eqPatS_l1 N p0 p1 m s = some r) (0) N h (sx [] []) (fun n1 ih1 s hm => ?_)
 revert hm; revert s; intro s1 hm
 have h : m_l_eqPatS_l1 N p0 p1 (n1 + 1) s1 = some r := hm
 show WT _ _ [(0, pv0), (1, pv1), (5, iV s1)] (St w0 Φ [] [])
 unfold m_l_eqPatS_l1 at h
 refine atr 5 [] rfl <| lnr ph0 rfl <| la rfl <| en ?_
 refine ch h rfl ?_ ?_ <;> intro h
 ·refine att 4 [] rfl <| WT.draw mixed (by kernel_rfl) (fun _ h => h.drew) <| aqq 2 [] rfl ?_
  obtain ⟨x1, hx1, h⟩ := bs h
  obtain ⟨cs1, F1, -, g1, hb1, hs1, r1⟩ := ph0.el (idx_some hx1).2.2
  obtain ⟨v1, G1, rfl, hq1, h1⟩ := r1
  obtain rfl := hq1.symm
  refine qq (q_indexAddr Sl_72 rfl rfl ph0 hx1) rfl <| qq (q_loadN Tn_124 rfl (fun w1 hw => (g1.of_eq 0 3 rfl rfl : rg _ _ _ [.string x1.Kind, v1, .bool x1.Not]).rangeAt hw.in0) rfl) rfl <| aqq 2 [] rfl ?_
  obtain ⟨x2, hx2, h⟩ := bs h
  obtain ⟨cs2, F2, -, g2, hb2, hs2, r2⟩ := ph1.el (idx_some hx2).2.2
  obtain ⟨v2, G2, rfl, hq2, h2⟩ := r2
  obtain rfl := hq2.symm
  refine qq (q_indexAddr Sl_72 rfl rfl ph1 hx2) rfl <| qq (q_loadN Tn_124 rfl (fun w1 hw => (g2.of_eq 0 3 rfl rfl : rg _ _ _ [.string x2.Kind, v2, .bool x2.Not]).rangeAt hw.in0) rfl) rfl ?_
  obtain ⟨x3, hx3, h⟩ := bs h
  refine qp (p_call Fun_131 rfl (fun w1 hw => m_l_eqPat_ok N (ba hw.in0) x1 x2 h1 h2 hx3)) rfl <| aqt 2 [] rfl ?_
  refine ch h rfl ?_ ?_ <;> intro h
  ·refine att 4 [] rfl ?_
   exact rt hF h
  refine att 7 [] rfl ?_
  exact lb [] [] (ih1 _ h)
 refine att 5 [] rfl ?_
 exact rt hF h
end Go.Proofs.YtjccaebpbieejaaGreat
