/- Printed by a program of ours: each Go function computes its Lean function. -/
import Derived.Test.YteipbimepilcfaaGreatDoorProg
import Derived.Test.YteipbimepilcfaaGreatDoorWDefsReadWalk4
namespace Go.Proofs.YteipbimepilcfaaGreatDoor
open Eng Tryz
open Go.RowKit (Below)
set_option linter.unusedVariables false
set_option linter.unusedSimpArgs false

set_option maxRecDepth 100000
set_option maxHeartbeats 1000000
variable {Ψ Φ : Hp} {pv0_0 pv0 : Value} {pG0_0 pG0 : List Nat} {pb0 : Nat} (N : Nat)
theorem m_s_l8Draw_ok (w0 : Base Ψ Φ [[pb0]].flatten) (p0 : Tl1Cur) (p1 : Int) (ph0_0 : RSl (RI .u8) 1 Ψ pG0_0 pv0_0 p0.b) (pp0 : Φ pb0 = some (.cells #[pv0_0, iV p0.i, iV p0.h] 107 (0, 0))) {r : TAct × Tl1Cur} (h : m_s_l8Draw N p0 p1 = some r) :
  Calls prog 141 [pQ pb0, iV p1].toArray w0.w (PostG Φ w0.w [[pb0]].flatten (fun Φ' Fs v => ∃ (sr_0_0 : Value), v = .agg [iV r.1.Kind, .string r.1.Name, sr_0_0, iV r.1.N, .string r.1.Undo].toArray ∧ Fs = [ob sr_0_0, [pb0]] ∧ OSl RTExpr 116 11 Φ' [] sr_0_0 r.1.Args ∧ r.2.b = p0.b ∧ Φ' pb0 = some (.cells #[pv0_0, iV r.2.i, iV r.2.h] 107 (0, 0)))) := by
 refine eL func141 rfl ntmps141 rfl (L := [[pb0]]) w0 (fun hF => ?_)
 unfold m_s_l8Draw at h
 refine sr <| lnz Zr_66 rfl fun b_1 => arr 4 [] rfl ?_
 have rc1 : RC (RI .i64) 1 Φ ([[], [], [], [], [], [], [], []] : List (List Nat)) [iV 1, iV 1, iV 2, iV 3, iV 3, iV 4, iV 5, iV 6] ([1, 1, 2, 3, 3, 4, 5, 6] : List Int) := RC.cons (c := [iV 1]) (cells := [iV 1, iV 2, iV 3, iV 3, iV 4, iV 5, iV 6]) ⟨rfl, rfl⟩ rfl (RC.cons (c := [iV 1]) (cells := [iV 2, iV 3, iV 3, iV 4, iV 5, iV 6]) ⟨rfl, rfl⟩ rfl (RC.cons (c := [iV 2]) (cells := [iV 3, iV 3, iV 4, iV 5, iV 6]) ⟨rfl, rfl⟩ rfl (RC.cons (c := [iV 3]) (cells := [iV 3, iV 4, iV 5, iV 6]) ⟨rfl, rfl⟩ rfl (RC.cons (c := [iV 3]) (cells := [iV 4, iV 5, iV 6]) ⟨rfl, rfl⟩ rfl (RC.cons (c := [iV 4]) (cells := [iV 5, iV 6]) ⟨rfl, rfl⟩ rfl (RC.cons (c := [iV 5]) (cells := [iV 6]) ⟨rfl, rfl⟩ rfl (RC.cons (c := [iV 6]) (cells := []) ⟨rfl, rfl⟩ rfl (RC.nil _ _ _))))))))
 refine le' (e_lit (vs := [(0, iV 1), (1, iV 1), (2, iV 2), (3, iV 3), (4, iV 3), (5, iV 4), (6, iV 5), (7, iV 6)]) (C := #[iV 1, iV 1, iV 2, iV 3, iV 3, iV 4, iV 5, iV 6]) RI.lasts Sl_156 Zr_3 rfl rfl rfl rfl (fill_made MC_3_8 (fill_cons (C' := [iV 1, iV 0, iV 0, iV 0, iV 0, iV 0, iV 0, iV 0]) rfl rfl rfl rfl rfl (fill_cons (C' := [iV 1, iV 1, iV 0, iV 0, iV 0, iV 0, iV 0, iV 0]) rfl rfl rfl rfl rfl (fill_cons (C' := [iV 1, iV 1, iV 2, iV 0, iV 0, iV 0, iV 0, iV 0]) rfl rfl rfl rfl rfl (fill_cons (C' := [iV 1, iV 1, iV 2, iV 3, iV 0, iV 0, iV 0, iV 0]) rfl rfl rfl rfl rfl (fill_cons (C' := [iV 1, iV 1, iV 2, iV 3, iV 3, iV 0, iV 0, iV 0]) rfl rfl rfl rfl rfl (fill_cons (C' := [iV 1, iV 1, iV 2, iV 3, iV 3, iV 4, iV 0, iV 0]) rfl rfl rfl rfl rfl (fill_cons (C' := [iV 1, iV 1, iV 2, iV 3, iV 3, iV 4, iV 5, iV 0]) rfl rfl rfl rfl rfl (fill_cons (C' := [iV 1, iV 1, iV 2, iV 3, iV 3, iV 4, iV 5, iV 6]) rfl rfl rfl rfl rfl (fill_nil)))))))))) rfl rc1 rfl (by simpa using Kw.nil)) rfl ?_
 rintro v1 Φ_1 D1 ⟨fr1, h1⟩
 replace h1 : OSl (RI .i64) 3 1 Φ_1 [] v1 ([1, 1, 2, 3, 3, 4, 5, 6] : List Int) := by simpa using h1
 replace pp0 := fr1 _ _ (by simp) pp0
 refine kcb [1] h rfl rfl rfl rfl (fun b ap z q => m_s_l1Int_ok N b p0 ([1, 1, 2, 3, 3, 4, 5, 6] : List Int) (ph0_0.y z) pp0 (h1.rsl.x (Dj.app (ap.q 0 rfl) dN)) q) ?_
 rintro x1 h v2 Φ_2 F1 ⟨ap1, fr2, rfl, rfl, e1, h2⟩
 refine lq (q_build (vs := [(0, iV x1.1)]) (C := #[iV x1.1, .string (⟨#[]⟩ : ByteArray), .slice none 0 0, iV 0, .string (⟨#[]⟩ : ByteArray)]) Pl_66 Zr_66 rfl (fill_cons (C' := [iV x1.1, .string ⟨#[]⟩, .slice none 0 0, iV 0, .string ⟨#[]⟩]) rfl rfl rfl rfl rfl (fill_nil))) rfl <| lnz Zr_66 rfl fun b_2 => soN 0 Sz_66 rfl ⟨rfl, rfl, rfl, rfl, rfl, trivial⟩ rfl ?_
 refine art 13 [0, 0] rfl ?_
 refine ch h rfl ?_ ?_ <;> intro h
 ·refine atr 4 [] rfl <| kcb [0] h rfl rfl rfl rfl (fun b ap z q => m_s_l1Below_ok N b (⟨p0.b, x1.2.i, x1.2.h⟩ : Tl1Cur) p1 (ph0_0.y z) h2 q) ?_
  rintro x2 h v3 Φ_3 F2 ⟨ap2, fr3, rfl, rfl, e2, h3⟩
  refine lf Fld_66_3 rfl rfl rfl <| so1 0 Sz_3 rfl rfl ?_
  refine arr 4 [5] rfl <| soN 1 Sz_66 rfl ⟨rfl, rfl, rfl, rfl, rfl, trivial⟩ rfl ?_
  refine en ?_
  refine WT.ret hF (resOk.one (rv_cell Tn_66 rfl (fun w1 hw => hw.rgO (i := 1) rfl 0 5 [iV x1.1, .string (⟨#[]⟩ : ByteArray), .slice none 0 0, iV x2.1, .string (⟨#[]⟩ : ByteArray)] rfl) rfl)) (fun w1 hw => ?_)
  cases h
  replace hw := hw.addNil
  refine postG_of_St (js := [0, 0]) hw rfl ⟨.slice none 0 0, rfl, rfl, OSl.nil _ _ _ _, rfl, h3⟩
 refine att 6 [] rfl ?_
 refine cut (σ := Bool) (fun s => [(0, pQ pb0), (4, pQ b_1), (5, pQ b_2), (21, .bool s)]) (fun s => St w0 Φ_2 [(b_2, .cells #[iV x1.1, .string (⟨#[]⟩ : ByteArray), .slice none 0 0, iV 0, .string (⟨#[]⟩ : ByteArray)] 66 (0, 0)), (b_1, .cells #[iV 0, .string (⟨#[]⟩ : ByteArray), .slice none 0 0, iV 0, .string (⟨#[]⟩ : ByteArray)] 66 (0, 0))] [[pb0]]) (fun s => m_s_l8Draw_j1 N p0 x1 s = some r) (fun s hm => ?_) (fun K => ?_)
 ·clear h
  revert hm; revert s; intro s1 hm
  have h : m_s_l8Draw_j1 N p0 x1 s1 = some r := hm
  show WT _ _ [(0, pQ pb0), (4, pQ b_1), (5, pQ b_2), (21, .bool s1)] (St w0 Φ_2 [(b_2, .cells #[iV x1.1, .string (⟨#[]⟩ : ByteArray), .slice none 0 0, iV 0, .string (⟨#[]⟩ : ByteArray)] 66 (0, 0)), (b_1, .cells #[iV 0, .string (⟨#[]⟩ : ByteArray), .slice none 0 0, iV 0, .string (⟨#[]⟩ : ByteArray)] 66 (0, 0))] [[pb0]])
  unfold m_s_l8Draw_j1 at h
  refine ch h rfl ?_ ?_ <;> intro h
  ·refine atr 3 [5] rfl <| soN 1 Sz_66 rfl ⟨rfl, rfl, rfl, rfl, rfl, trivial⟩ rfl ?_
   refine en ?_
   refine WT.ret hF (resOk.one (rv_cell Tn_66 rfl (fun w1 hw => hw.rgO (i := 1) rfl 0 5 [iV x1.1, .string (⟨#[]⟩ : ByteArray), .slice none 0 0, iV 0, .string (⟨#[]⟩ : ByteArray)] rfl) rfl)) (fun w1 hw => ?_)
   cases h
   replace hw := hw.addNil
   refine postG_of_St (js := [0, 0]) hw rfl ⟨.slice none 0 0, rfl, rfl, OSl.nil _ _ _ _, rfl, h2⟩
  refine atr 5 [] rfl ?_
  have rc2 : RC RS 1 Φ_2 ([[], [], [], [], []] : List (List Nat)) [.string (⟨#[111, 114, 100, 101, 114]⟩ : ByteArray), .string (⟨#[112, 97, 105, 100]⟩ : ByteArray), .string (⟨#[105, 116, 101, 109]⟩ : ByteArray), .string (⟨#[115, 104, 105, 112]⟩ : ByteArray), .string (⟨#[99, 104, 97, 114, 103, 101]⟩ : ByteArray)] ([(⟨#[111, 114, 100, 101, 114]⟩ : ByteArray), (⟨#[112, 97, 105, 100]⟩ : ByteArray), (⟨#[105, 116, 101, 109]⟩ : ByteArray), (⟨#[115, 104, 105, 112]⟩ : ByteArray), (⟨#[99, 104, 97, 114, 103, 101]⟩ : ByteArray)] : List ByteArray) := RC.cons (c := [.string (⟨#[111, 114, 100, 101, 114]⟩ : ByteArray)]) (cells := [.string (⟨#[112, 97, 105, 100]⟩ : ByteArray), .string (⟨#[105, 116, 101, 109]⟩ : ByteArray), .string (⟨#[115, 104, 105, 112]⟩ : ByteArray), .string (⟨#[99, 104, 97, 114, 103, 101]⟩ : ByteArray)]) ⟨rfl, rfl⟩ rfl (RC.cons (c := [.string (⟨#[112, 97, 105, 100]⟩ : ByteArray)]) (cells := [.string (⟨#[105, 116, 101, 109]⟩ : ByteArray), .string (⟨#[115, 104, 105, 112]⟩ : ByteArray), .string (⟨#[99, 104, 97, 114, 103, 101]⟩ : ByteArray)]) ⟨rfl, rfl⟩ rfl (RC.cons (c := [.string (⟨#[105, 116, 101, 109]⟩ : ByteArray)]) (cells := [.string (⟨#[115, 104, 105, 112]⟩ : ByteArray), .string (⟨#[99, 104, 97, 114, 103, 101]⟩ : ByteArray)]) ⟨rfl, rfl⟩ rfl (RC.cons (c := [.string (⟨#[115, 104, 105, 112]⟩ : ByteArray)]) (cells := [.string (⟨#[99, 104, 97, 114, 103, 101]⟩ : ByteArray)]) ⟨rfl, rfl⟩ rfl (RC.cons (c := [.string (⟨#[99, 104, 97, 114, 103, 101]⟩ : ByteArray)]) (cells := []) ⟨rfl, rfl⟩ rfl (RC.nil _ _ _)))))
  refine le' (e_lit (vs := [(0, .string (⟨#[111, 114, 100, 101, 114]⟩ : ByteArray)), (1, .string (⟨#[112, 97, 105, 100]⟩ : ByteArray)), (2, .string (⟨#[105, 116, 101, 109]⟩ : ByteArray)), (3, .string (⟨#[115, 104, 105, 112]⟩ : ByteArray)), (4, .string (⟨#[99, 104, 97, 114, 103, 101]⟩ : ByteArray))]) (C := #[.string (⟨#[111, 114, 100, 101, 114]⟩ : ByteArray), .string (⟨#[112, 97, 105, 100]⟩ : ByteArray), .string (⟨#[105, 116, 101, 109]⟩ : ByteArray), .string (⟨#[115, 104, 105, 112]⟩ : ByteArray), .string (⟨#[99, 104, 97, 114, 103, 101]⟩ : ByteArray)]) RS.lasts Sl_68 Zr_9 rfl rfl rfl rfl (fill_made MC_9_5 (fill_cons (C' := [.string (⟨#[111, 114, 100, 101, 114]⟩ : ByteArray), .string ⟨#[]⟩, .string ⟨#[]⟩, .string ⟨#[]⟩, .string ⟨#[]⟩]) rfl rfl rfl rfl rfl (fill_cons (C' := [.string (⟨#[111, 114, 100, 101, 114]⟩ : ByteArray), .string (⟨#[112, 97, 105, 100]⟩ : ByteArray), .string ⟨#[]⟩, .string ⟨#[]⟩, .string ⟨#[]⟩]) rfl rfl rfl rfl rfl (fill_cons (C' := [.string (⟨#[111, 114, 100, 101, 114]⟩ : ByteArray), .string (⟨#[112, 97, 105, 100]⟩ : ByteArray), .string (⟨#[105, 116, 101, 109]⟩ : ByteArray), .string ⟨#[]⟩, .string ⟨#[]⟩]) rfl rfl rfl rfl rfl (fill_cons (C' := [.string (⟨#[111, 114, 100, 101, 114]⟩ : ByteArray), .string (⟨#[112, 97, 105, 100]⟩ : ByteArray), .string (⟨#[105, 116, 101, 109]⟩ : ByteArray), .string (⟨#[115, 104, 105, 112]⟩ : ByteArray), .string ⟨#[]⟩]) rfl rfl rfl rfl rfl (fill_cons (C' := [.string (⟨#[111, 114, 100, 101, 114]⟩ : ByteArray), .string (⟨#[112, 97, 105, 100]⟩ : ByteArray), .string (⟨#[105, 116, 101, 109]⟩ : ByteArray), .string (⟨#[115, 104, 105, 112]⟩ : ByteArray), .string (⟨#[99, 104, 97, 114, 103, 101]⟩ : ByteArray)]) rfl rfl rfl rfl rfl (fill_nil))))))) rfl rc2 rfl (by simpa using Kw.nil)) rfl ?_
  rintro v4 Φ_4 D2 ⟨fr4, h4⟩
  replace h4 : OSl RS 9 1 Φ_4 [] v4 ([(⟨#[111, 114, 100, 101, 114]⟩ : ByteArray), (⟨#[112, 97, 105, 100]⟩ : ByteArray), (⟨#[105, 116, 101, 109]⟩ : ByteArray), (⟨#[115, 104, 105, 112]⟩ : ByteArray), (⟨#[99, 104, 97, 114, 103, 101]⟩ : ByteArray)] : List ByteArray) := by simpa using h4
  replace h2 := fr4 _ _ (by simp) h2
  refine kcb [1] h rfl rfl rfl rfl (fun b ap z q => m_s_l1Str_ok N b (⟨p0.b, x1.2.i, x1.2.h⟩ : Tl1Cur) ([(⟨#[111, 114, 100, 101, 114]⟩ : ByteArray), (⟨#[112, 97, 105, 100]⟩ : ByteArray), (⟨#[105, 116, 101, 109]⟩ : ByteArray), (⟨#[115, 104, 105, 112]⟩ : ByteArray), (⟨#[99, 104, 97, 114, 103, 101]⟩ : ByteArray)] : List ByteArray) (ph0_0.y z) h2 (h4.rsl.x (Dj.app (ap.q 0 rfl) dN)) q) ?_
  rintro x3 h v5 Φ_5 F3 ⟨ap3, fr5, rfl, rfl, e3, h5⟩
  refine lf Fld_66_1 rfl rfl rfl <| so1 0 Sz_9 rfl rfl ?_
  refine art 12 [1, 0] rfl ?_
  refine cut (σ := Int) (fun s => [(0, pQ pb0), (4, pQ b_1), (5, pQ b_2), (6, iV s)]) (fun s => St w0 Φ_5 [(b_2, .cells #[iV x1.1, .string x3.1, .slice none 0 0, iV 0, .string (⟨#[]⟩ : ByteArray)] 66 (0, 0)), (b_1, .cells #[iV 0, .string (⟨#[]⟩ : ByteArray), .slice none 0 0, iV 0, .string (⟨#[]⟩ : ByteArray)] 66 (0, 0))] [[pb0]]) (fun s => m_s_l8Draw_j2 N p0 x1 x3 s = some r) (fun s hm => ?_) (fun K => ?_)
  ·clear h
   revert hm; revert s; intro s2 hm
   have h : m_s_l8Draw_j2 N p0 x1 x3 s2 = some r := hm
   show WT _ _ [(0, pQ pb0), (4, pQ b_1), (5, pQ b_2), (6, iV s2)] (St w0 Φ_5 [(b_2, .cells #[iV x1.1, .string x3.1, .slice none 0 0, iV 0, .string (⟨#[]⟩ : ByteArray)] 66 (0, 0)), (b_1, .cells #[iV 0, .string (⟨#[]⟩ : ByteArray), .slice none 0 0, iV 0, .string (⟨#[]⟩ : ByteArray)] 66 (0, 0))] [[pb0]])
   unfold m_s_l8Draw_j2 at h
   refine att 6 [] rfl <| wtS ?_
   have k1 := OSl.nil RTExpr 116 11 Φ_5
   refine lin (σ := Hp × (List TExpr) × Value × Int × Int × Int) (fun s => [(0, pQ pb0), (4, pQ b_1), (5, pQ b_2), (6, iV s2), (7, iV s.2.2.2.1)]) (fun s => St w0 s.1 [(b_2, .cells #[iV x1.1, .string x3.1, s.2.2.1, iV 0, .string (⟨#[]⟩ : ByteArray)] 66 (0, 0)), (b_1, .cells #[iV 0, .string (⟨#[]⟩ : ByteArray), .slice none 0 0, iV 0, .string (⟨#[]⟩ : ByteArray)] 66 (0, 0))] [ob s.2.2.1, [pb0]]) (fun m s => m_s_l8Draw_l3 N p0 x1 x3 s2 m s.2.1 s.2.2.2.1 s.2.2.2.2.1 s.2.2.2.2.2 = some r ∧ (OSl RTExpr 116 11 s.1 [] s.2.2.1 s.2.1) ∧ (s.1 pb0 = some (.cells #[pv0_0, iV s.2.2.2.2.1, iV s.2.2.2.2.2] 107 (0, 0)))) (Φ_5, ([] : List TExpr), (.slice none 0 0), 0, x3.2.i, x3.2.h) N ⟨h, k1, h5⟩ (sx [0, 0] [0, 0]) (fun n3 ih3 s hm => ?_)
   obtain ⟨Φ_6, s3, u1, s4, s5, s6⟩ := s
   obtain ⟨h, k2, k3⟩ := hm
   dsimp only at h k2 k3 ⊢
   unfold m_s_l8Draw_l3 at h
   refine att 7 [] rfl ?_
   refine ch h rfl ?_ ?_ <;> intro h
   ·refine att 3 [] rfl <| wm [0, 1] [7] rfl <| amm 3 [0, 2, 1, 0, 2] [0, 1] rfl rfl ?_
    obtain ⟨x4, hx4, h⟩ := bs h
    refine WM.one 3 (by kernel_rfl) (mc rfl (fun _ v Φx D w1 hq hw => Kn.of Kf.nil (ai2 0 1 rfl rfl) hw) (k_call (js := [1]) (R := [ob u1]) Fun_191 rfl rfl (fun w1 hw ap hl => m_s_l8Expr_ok N (bx hw ap hl) (⟨p0.b, s5, s6⟩ : Tl1Cur) (ph0_0.y (hw.uo ap)) k3  hx4)) rfl ?_)
    rintro v6 Φ_7 F4 ⟨ap4, fr6, rfl, rfl, e4, h6⟩
    replace k2 := k2.fr fr6 (ap4.q 0 rfl) dN
    have rc3 : RC RTExpr 11 Φ_7 ([[]] : List (List Nat)) [.string x4.1.Op, iV x4.1.L.K, .string x4.1.L.S, iV x4.1.L.V.K, iV x4.1.L.V.N, .string x4.1.L.V.S, iV x4.1.R.K, .string x4.1.R.S, iV x4.1.R.V.K, iV x4.1.R.V.N, .string x4.1.R.V.S] ([x4.1] : List TExpr) := RC.cons (c := [.string x4.1.Op, iV x4.1.L.K, .string x4.1.L.S, iV x4.1.L.V.K, iV x4.1.L.V.N, .string x4.1.L.V.S, iV x4.1.R.K, .string x4.1.R.S, iV x4.1.R.V.K, iV x4.1.R.V.N, .string x4.1.R.V.S]) (cells := []) ⟨rfl, rfl⟩ rfl (RC.nil _ _ _)
    refine WM.one 4 (by kernel_rfl) (me rfl (fun _ v Φx D w1 hq hw => Kn.of Kf.nil (ai2 0 1 rfl rfl) hw) (e_lit (vs := [(0, .agg [.string x4.1.Op, iV x4.1.L.K, .string x4.1.L.S, iV x4.1.L.V.K, iV x4.1.L.V.N, .string x4.1.L.V.S, iV x4.1.R.K, .string x4.1.R.S, iV x4.1.R.V.K, iV x4.1.R.V.N, .string x4.1.R.V.S].toArray)]) (C := #[.string x4.1.Op, iV x4.1.L.K, .string x4.1.L.S, iV x4.1.L.V.K, iV x4.1.L.V.N, .string x4.1.L.V.S, iV x4.1.R.K, .string x4.1.R.S, iV x4.1.R.V.K, iV x4.1.R.V.N, .string x4.1.R.V.S]) RTExpr.lasts Sl_64 Zr_116 rfl rfl rfl rfl (fill_made MC_116_1 (fill_cons (C' := [.string x4.1.Op, iV x4.1.L.K, .string x4.1.L.S, iV x4.1.L.V.K, iV x4.1.L.V.N, .string x4.1.L.V.S, iV x4.1.R.K, .string x4.1.R.S, iV x4.1.R.V.K, iV x4.1.R.V.N, .string x4.1.R.V.S]) rfl rfl rfl rfl rfl (fill_nil))) rfl rc3 rfl (by simpa using Kw.nil)) rfl ?_)
    rintro v7 Φ_8 D3 ⟨fr7, h7⟩
    replace h7 : OSl RTExpr 116 11 Φ_8 [] v7 ([x4.1] : List TExpr) := by simpa using h7
    replace k2 := k2.f0 fr7
    replace h6 := fr7 _ _ (by simp) h6
    obtain ⟨x5, hx5, h⟩ := bs h
    refine WM.one 5 (by kernel_rfl) (me rfl (fun _ v Φx D w1 hq hw => Kn.of Kf.nil (ai2 0 1 rfl rfl) hw) (e_appF RTExpr.lasts RTExpr.one RTExpr.flat Sl_64 Ei_116 rfl rfl rfl rfl rfl (js := [2]) (Rr := [ob v7, [pb0]]) rfl k2 h7.rsl hx5) rfl ?_)
    rintro v8 Φ_9 D4 ⟨⟨ap5, fr8⟩, h8⟩
    replace h6 := fr8 _ _ ((ap5.q 1 rfl) _ (by simp)) h6
    refine amm 1 [6, 2] [0, 1] rfl rfl ?_
    refine on1 7 (ms1 0 rfl nk Sz_64 rfl h8.one ?_)
    refine WM.nil (by kernel_rfl) <| att 6 [] rfl ?_
    exact lb [0, 1] [0, 0] (ih3 (_, _, _, _, _, _) ⟨h, h8, h6⟩)
   refine att 8 [0, 0] rfl ?_
   refine cut (σ := Hp × Int × Int × Int) (fun s => [(0, pQ pb0), (4, pQ b_1), (5, pQ b_2)]) (fun s => St w0 s.1 [(b_2, .cells #[iV x1.1, .string x3.1, u1, iV s.2.2.2, .string (⟨#[]⟩ : ByteArray)] 66 (0, 0)), (b_1, .cells #[iV 0, .string (⟨#[]⟩ : ByteArray), .slice none 0 0, iV 0, .string (⟨#[]⟩ : ByteArray)] 66 (0, 0))] [ob u1, [pb0]]) (fun s => m_s_l8Draw_j4 N p0 x1 x3 s3 s.2.1 s.2.2.1 s.2.2.2 = some r ∧ (OSl RTExpr 116 11 s.1 [] u1 s3) ∧ (s.1 pb0 = some (.cells #[pv0_0, iV s.2.1, iV s.2.2.1] 107 (0, 0)))) (fun s hm => ?_) (fun K => ?_)
   ·clear h
    obtain ⟨Φ_10, s7, s8, s9⟩ := s
    obtain ⟨h, k2, k4⟩ := hm
    dsimp only at h k2 k4 ⊢
    unfold m_s_l8Draw_j4 at h
    refine atr 7 [0, 0] rfl ?_
    refine WL.cutS 3 (σ := Hp × Bool × Int × Int) (fun s => [(0, pQ pb0), (4, pQ b_1), (5, pQ b_2), (57, .bool s.2.1)]) (fun s => St w0 s.1 [(b_2, .cells #[iV x1.1, .string x3.1, u1, iV s9, .string (⟨#[]⟩ : ByteArray)] 66 (0, 0)), (b_1, .cells #[iV 0, .string (⟨#[]⟩ : ByteArray), .slice none 0 0, iV 0, .string (⟨#[]⟩ : ByteArray)] 66 (0, 0))] [ob u1, [pb0]]) (fun s => m_s_l8Draw_j5 N p0 x1 x3 s3 s9 s.2.1 s.2.2.1 s.2.2.2 = some r ∧ (OSl RTExpr 116 11 s.1 [] u1 s3) ∧ (s.1 pb0 = some (.cells #[pv0_0, iV s.2.2.1, iV s.2.2.2] 107 (0, 0)))) (fun s hm => ?_) (fun K => ?_)
    ·clear h
     obtain ⟨Φ_11, s10, s11, s12⟩ := s
     obtain ⟨h, k2, k5⟩ := hm
     replace h : m_s_l8Draw_j5 N p0 x1 x3 s3 s9 s10 s11 s12 = some r := h
     replace k2 : OSl RTExpr 116 11 Φ_11 [] u1 s3 := k2
     replace k5 : Φ_11 pb0 = some (.cells #[pv0_0, iV s11, iV s12] 107 (0, 0)) := k5
     show WL _ _ _ _ [(0, pQ pb0), (4, pQ b_1), (5, pQ b_2), (57, .bool s10)] (St w0 Φ_11 [(b_2, .cells #[iV x1.1, .string x3.1, u1, iV s9, .string (⟨#[]⟩ : ByteArray)] 66 (0, 0)), (b_1, .cells #[iV 0, .string (⟨#[]⟩ : ByteArray), .slice none 0 0, iV 0, .string (⟨#[]⟩ : ByteArray)] 66 (0, 0))] [ob u1, [pb0]])
     unfold m_s_l8Draw_j5 at h
     refine en ?_
     refine cut (σ := Hp × Int × Int × ByteArray) (fun s => [(4, pQ b_1), (5, pQ b_2)]) (fun s => St w0 s.1 [(b_2, .cells #[iV x1.1, .string x3.1, u1, iV s9, .string s.2.2.2] 66 (0, 0)), (b_1, .cells #[iV 0, .string (⟨#[]⟩ : ByteArray), .slice none 0 0, iV 0, .string (⟨#[]⟩ : ByteArray)] 66 (0, 0))] [ob u1, [pb0]]) (fun s => m_s_l8Draw_j6 N p0 x1 x3 s3 s9 s.2.1 s.2.2.1 s.2.2.2 = some r ∧ (OSl RTExpr 116 11 s.1 [] u1 s3) ∧ (s.1 pb0 = some (.cells #[pv0_0, iV s.2.1, iV s.2.2.1] 107 (0, 0)))) (fun s hm => ?_) (fun K => ?_)
     ·clear h
      obtain ⟨Φ_12, s13, s14, s15⟩ := s
      obtain ⟨h, k2, k6⟩ := hm
      dsimp only at h k2 k6 ⊢
      unfold m_s_l8Draw_j6 at h
      refine atr 3 [5] rfl <| soN 1 Sz_66 rfl ⟨rfl, rfl, k2.one, rfl, rfl, trivial⟩ rfl ?_
      refine en ?_
      exact rtg [0, 0] hF (resOk.one (rv_cell Tn_66 rfl (fun w1 hw => hw.rgO (i := 1) rfl 0 5 [iV x1.1, .string x3.1, u1, iV s9, .string s15] rfl) rfl)) rfl (by cases h; exact fun w1 hw => ⟨u1, rfl, rfl, k2, rfl, k6⟩)
     refine ch h rfl ?_ ?_ <;> intro h
     ·refine atr 2 [] rfl ?_
      have rc4 : RC RS 1 Φ_11 ([[], []] : List (List Nat)) [.string (⟨#[114, 101, 102, 117, 110, 100]⟩ : ByteArray), .string (⟨#[99, 97, 110, 99, 101, 108]⟩ : ByteArray)] ([(⟨#[114, 101, 102, 117, 110, 100]⟩ : ByteArray), (⟨#[99, 97, 110, 99, 101, 108]⟩ : ByteArray)] : List ByteArray) := RC.cons (c := [.string (⟨#[114, 101, 102, 117, 110, 100]⟩ : ByteArray)]) (cells := [.string (⟨#[99, 97, 110, 99, 101, 108]⟩ : ByteArray)]) ⟨rfl, rfl⟩ rfl (RC.cons (c := [.string (⟨#[99, 97, 110, 99, 101, 108]⟩ : ByteArray)]) (cells := []) ⟨rfl, rfl⟩ rfl (RC.nil _ _ _))
      refine le' (e_lit (vs := [(0, .string (⟨#[114, 101, 102, 117, 110, 100]⟩ : ByteArray)), (1, .string (⟨#[99, 97, 110, 99, 101, 108]⟩ : ByteArray))]) (C := #[.string (⟨#[114, 101, 102, 117, 110, 100]⟩ : ByteArray), .string (⟨#[99, 97, 110, 99, 101, 108]⟩ : ByteArray)]) RS.lasts Sl_68 Zr_9 rfl rfl rfl rfl (fill_made MC_9_2 (fill_cons (C' := [.string (⟨#[114, 101, 102, 117, 110, 100]⟩ : ByteArray), .string ⟨#[]⟩]) rfl rfl rfl rfl rfl (fill_cons (C' := [.string (⟨#[114, 101, 102, 117, 110, 100]⟩ : ByteArray), .string (⟨#[99, 97, 110, 99, 101, 108]⟩ : ByteArray)]) rfl rfl rfl rfl rfl (fill_nil)))) rfl rc4 rfl (by simpa using Kw.nil)) rfl ?_
      rintro v9 Φ_13 D5 ⟨fr9, h9⟩
      replace h9 : OSl RS 9 1 Φ_13 [] v9 ([(⟨#[114, 101, 102, 117, 110, 100]⟩ : ByteArray), (⟨#[99, 97, 110, 99, 101, 108]⟩ : ByteArray)] : List ByteArray) := by simpa using h9
      replace k2 := k2.f0 fr9
      replace k5 := fr9 _ _ (by simp) k5
      refine kcb [2] h rfl rfl rfl rfl (fun b ap z q => m_s_l1Str_ok N b (⟨p0.b, s11, s12⟩ : Tl1Cur) ([(⟨#[114, 101, 102, 117, 110, 100]⟩ : ByteArray), (⟨#[99, 97, 110, 99, 101, 108]⟩ : ByteArray)] : List ByteArray) (ph0_0.y z) k5 (h9.rsl.x (Dj.app (ap.q 0 rfl) dN)) q) ?_
      rintro x6 h v10 Φ_14 F5 ⟨ap6, fr10, rfl, rfl, e5, h10⟩
      replace k2 := k2.fr fr10 (ap6.q 1 rfl) dN
      refine lf Fld_66_4 rfl rfl rfl <| so1 0 Sz_9 rfl rfl ?_
      refine en ?_
      exact wo [2, 0] [0, 0] (K (_, _, _, _) ⟨h, k2, h10⟩)
     refine WT.skip ?_
     exact wo [0, 0] [0, 0] (K (_, _, _, _) ⟨h, k2, k5⟩)
    refine sp 54 h rfl (fun h => ?_) fun h => ?_
    ·refine ly rfl rfl <| la rfl <| ly rfl rfl <| kcb [1] h rfl rfl rfl rfl (fun b ap z q => m_s_l1Once_ok N b (⟨p0.b, s7, s8⟩ : Tl1Cur) 2 (ph0_0.y z) k4 q) ?_
     rintro x7 h v11 Φ_15 F6 ⟨ap7, fr11, rfl, rfl, e6, h11⟩
     replace k2 := k2.fr fr11 (ap7.q 0 rfl) dN
     refine la rfl <| WL.mono (l' := [(0, pQ pb0), (4, pQ b_1), (5, pQ b_2), (57, .bool x7.1)]) (S' := St w0 Φ_15 [(b_2, .cells #[iV x1.1, .string x3.1, u1, iV s9, .string (⟨#[]⟩ : ByteArray)] 66 (0, 0)), (b_1, .cells #[iV 0, .string (⟨#[]⟩ : ByteArray), .slice none 0 0, iV 0, .string (⟨#[]⟩ : ByteArray)] 66 (0, 0))] [ob u1, [pb0]]) (by exact ⟨rfl, rfl, rfl, rfl, trivial⟩) (sx [1, 0] [0, 0]) ?_
     exact K (Φ_15, x7.1, x7.2.i, x7.2.h) ⟨h, k2, h11⟩
    refine arr 3 [] rfl <| WL.mono (l' := [(0, pQ pb0), (4, pQ b_1), (5, pQ b_2), (57, .bool false)]) (S' := St w0 Φ_10 [(b_2, .cells #[iV x1.1, .string x3.1, u1, iV s9, .string (⟨#[]⟩ : ByteArray)] 66 (0, 0)), (b_1, .cells #[iV 0, .string (⟨#[]⟩ : ByteArray), .slice none 0 0, iV 0, .string (⟨#[]⟩ : ByteArray)] 66 (0, 0))] [ob u1, [pb0]]) (by exact ⟨rfl, rfl, rfl, rfl, trivial⟩) (sx [0, 0] [0, 0]) ?_
    exact K (Φ_10, false, s7, s8) ⟨h, k2, k4⟩
   refine ch h rfl ?_ ?_ <;> intro h
   ·refine atr 2 [] rfl ?_
    have rc5 : RC (RI .i64) 1 Φ_6 ([[], [], [], []] : List (List Nat)) [iV 0, iV 1, iV 5, iV 100000] ([0, 1, 5, 100000] : List Int) := RC.cons (c := [iV 0]) (cells := [iV 1, iV 5, iV 100000]) ⟨rfl, rfl⟩ rfl (RC.cons (c := [iV 1]) (cells := [iV 5, iV 100000]) ⟨rfl, rfl⟩ rfl (RC.cons (c := [iV 5]) (cells := [iV 100000]) ⟨rfl, rfl⟩ rfl (RC.cons (c := [iV 100000]) (cells := []) ⟨rfl, rfl⟩ rfl (RC.nil _ _ _))))
    refine le' (e_lit (vs := [(0, iV 0), (1, iV 1), (2, iV 5), (3, iV 100000)]) (C := #[iV 0, iV 1, iV 5, iV 100000]) RI.lasts Sl_156 Zr_3 rfl rfl rfl rfl (fill_made MC_3_4 (fill_cons (C' := [iV 0, iV 0, iV 0, iV 0]) rfl rfl rfl rfl rfl (fill_cons (C' := [iV 0, iV 1, iV 0, iV 0]) rfl rfl rfl rfl rfl (fill_cons (C' := [iV 0, iV 1, iV 5, iV 0]) rfl rfl rfl rfl rfl (fill_cons (C' := [iV 0, iV 1, iV 5, iV 100000]) rfl rfl rfl rfl rfl (fill_nil)))))) rfl rc5 rfl (by simpa using Kw.nil)) rfl ?_
    rintro v12 Φ_16 D6 ⟨fr12, h12⟩
    replace h12 : OSl (RI .i64) 3 1 Φ_16 [] v12 ([0, 1, 5, 100000] : List Int) := by simpa using h12
    replace k2 := k2.f0 fr12
    replace k3 := fr12 _ _ (by simp) k3
    refine kcb [2] h rfl rfl rfl rfl (fun b ap z q => m_s_l1Int_ok N b (⟨p0.b, s5, s6⟩ : Tl1Cur) ([0, 1, 5, 100000] : List Int) (ph0_0.y z) k3 (h12.rsl.x (Dj.app (ap.q 0 rfl) dN)) q) ?_
    rintro x8 h v13 Φ_17 F7 ⟨ap8, fr13, rfl, rfl, e7, h13⟩
    replace k2 := k2.fr fr13 (ap8.q 1 rfl) dN
    refine lf Fld_66_3 rfl rfl rfl <| so1 0 Sz_3 rfl rfl ?_
    refine en ?_
    exact wo [2, 0] [0, 0] (K (_, _, _, _) ⟨h, k2, h13⟩)
   refine WT.skip ?_
   exact wo [0, 0] [0, 0] (K (_, _, _, _) ⟨h, k2, k3⟩)
  refine ch h rfl ?_ ?_ <;> intro h
  ·refine att 3 [] rfl ?_
   exact wo [0] [0, 0] (K _ h)
  refine WT.skip ?_
  exact wo [0] [0, 0] (K _ h)
 refine ch h rfl ?_ ?_ <;> intro h
 ·refine WT.skip ?_
  exact wo [0] [0, 0] (K _ h)
 refine att 4 [] rfl ?_
 exact wo [0] [0, 0] (K _ h)
theorem m_s_l9Draw_ok (w0 : Base Ψ Φ [[pb0]].flatten) (p0 : Tl1Cur) (p1 : ByteArray) (ph0_0 : RSl (RI .u8) 1 Ψ pG0_0 pv0_0 p0.b) (pp0 : Φ pb0 = some (.cells #[pv0_0, iV p0.i, iV p0.h] 107 (0, 0))) {r : TRule × Tl1Cur} (h : m_s_l9Draw N p0 p1 = some r) :
  Calls prog 73 [pQ pb0, .string p1].toArray w0.w (PostG Φ w0.w [[pb0]].flatten (fun Φ' Fs v => ∃ (sr_0_0 : Value) (Dr_0_0 : List Nat) (sr_0_1 : Value) (sr_0_2 : Value) (Dr_0_2 : List Nat), v = .agg [.string r.1.Name, iV r.1.Sal, sr_0_0, sr_0_1, sr_0_2].toArray ∧ Fs = [ob sr_0_0, Dr_0_0, ob sr_0_1, ob sr_0_2, Dr_0_2, [pb0]] ∧ OSl OTPat 35 3 Φ' Dr_0_0 sr_0_0 r.1.Pats ∧ OSl RTCond 62 11 Φ' [] sr_0_1 r.1.Conds ∧ OSl OTAct 66 5 Φ' Dr_0_2 sr_0_2 r.1.Acts ∧ r.2.b = p0.b ∧ Φ' pb0 = some (.cells #[pv0_0, iV r.2.i, iV r.2.h] 107 (0, 0)))) := by
 refine eL func73 rfl ntmps73 rfl (L := [[pb0]]) w0 (fun hF => ?_)
 unfold m_s_l9Draw at h
 refine sr <| lnz Zr_28 rfl fun b_1 => arr 5 [] rfl ?_
 have rc1 : RC (RI .i64) 1 Φ ([[], [], [], [], []] : List (List Nat)) [iV 0, iV 0, iV 5, iV (-5), iV 100] ([0, 0, 5, (-5), 100] : List Int) := RC.cons (c := [iV 0]) (cells := [iV 0, iV 5, iV (-5), iV 100]) ⟨rfl, rfl⟩ rfl (RC.cons (c := [iV 0]) (cells := [iV 5, iV (-5), iV 100]) ⟨rfl, rfl⟩ rfl (RC.cons (c := [iV 5]) (cells := [iV (-5), iV 100]) ⟨rfl, rfl⟩ rfl (RC.cons (c := [iV (-5)]) (cells := [iV 100]) ⟨rfl, rfl⟩ rfl (RC.cons (c := [iV 100]) (cells := []) ⟨rfl, rfl⟩ rfl (RC.nil _ _ _)))))
 refine le' (e_lit (vs := [(0, iV 0), (1, iV 0), (2, iV 5), (3, iV (-5)), (4, iV 100)]) (C := #[iV 0, iV 0, iV 5, iV (-5), iV 100]) RI.lasts Sl_156 Zr_3 rfl rfl rfl rfl (fill_made MC_3_5 (fill_cons (C' := [iV 0, iV 0, iV 0, iV 0, iV 0]) rfl rfl rfl rfl rfl (fill_cons (C' := [iV 0, iV 0, iV 0, iV 0, iV 0]) rfl rfl rfl rfl rfl (fill_cons (C' := [iV 0, iV 0, iV 5, iV 0, iV 0]) rfl rfl rfl rfl rfl (fill_cons (C' := [iV 0, iV 0, iV 5, iV (-5), iV 0]) rfl rfl rfl rfl rfl (fill_cons (C' := [iV 0, iV 0, iV 5, iV (-5), iV 100]) rfl rfl rfl rfl rfl (fill_nil))))))) rfl rc1 rfl (by simpa using Kw.nil)) rfl ?_
 rintro v1 Φ_1 D1 ⟨fr1, h1⟩
 replace h1 : OSl (RI .i64) 3 1 Φ_1 [] v1 ([0, 0, 5, (-5), 100] : List Int) := by simpa using h1
 replace pp0 := fr1 _ _ (by simp) pp0
 refine kcb [1] h rfl rfl rfl rfl (fun b ap z q => m_s_l1Int_ok N b p0 ([0, 0, 5, (-5), 100] : List Int) (ph0_0.y z) pp0 (h1.rsl.x (Dj.app (ap.q 0 rfl) dN)) q) ?_
 rintro x1 h v2 Φ_2 F1 ⟨ap1, fr2, rfl, rfl, e1, h2⟩
 refine lq (q_build (vs := [(0, .string p1), (1, iV x1.1)]) (C := #[.string p1, iV x1.1, .slice none 0 0, .slice none 0 0, .slice none 0 0]) Pl_28 Zr_28 rfl (fill_cons (C' := [.string p1, iV 0, .slice none 0 0, .slice none 0 0, .slice none 0 0]) rfl rfl rfl rfl rfl (fill_cons (C' := [.string p1, iV x1.1, .slice none 0 0, .slice none 0 0, .slice none 0 0]) rfl rfl rfl rfl rfl (fill_nil)))) rfl <| lnz Zr_28 rfl fun b_2 => soN 0 Sz_28 rfl ⟨rfl, rfl, rfl, rfl, rfl, trivial⟩ rfl ?_
 refine arr 5 [] rfl <| kcb [0] h rfl rfl rfl rfl (fun b ap z q => m_s_l1Below_ok N b (⟨p0.b, x1.2.i, x1.2.h⟩ : Tl1Cur) 3 (ph0_0.y z) h2 q) ?_
 rintro x2 h v3 Φ_3 F2 ⟨ap2, fr3, rfl, rfl, e2, h3⟩
 refine art 4 [] rfl <| wtS <| wt0 ?_
 have k1 := OSl.nil OTPat 35 3 Φ_3
 refine lin (σ := Hp × (List TPat) × Value × List Nat × Int × Int × Int) (fun s => [(0, pQ pb0), (4, pQ b_1), (5, pQ b_2), (6, iV s.2.2.2.2.1)]) (fun s => St w0 s.1 [(b_2, .cells #[.string p1, iV x1.1, s.2.2.1, .slice none 0 0, .slice none 0 0] 28 (0, 0)), (b_1, .cells #[.string (⟨#[]⟩ : ByteArray), iV 0, .slice none 0 0, .slice none 0 0, .slice none 0 0] 28 (0, 0))] [s.2.2.2.1, ob s.2.2.1, [pb0]]) (fun m s => m_s_l9Draw_l1 N p0 p1 x1 m s.2.1 s.2.2.2.2.1 s.2.2.2.2.2.1 s.2.2.2.2.2.2 = some r ∧ (OSl OTPat 35 3 s.1 s.2.2.2.1 s.2.2.1 s.2.1) ∧ (s.1 pb0 = some (.cells #[pv0_0, iV s.2.2.2.2.2.1, iV s.2.2.2.2.2.2] 107 (0, 0)))) (Φ_3, ([] : List TPat), (.slice none 0 0), [], wz (1 + x2.1), x2.2.i, x2.2.h) N ⟨h, k1, h3⟩ (sx [0, 0, 0] [0, 0]) (fun n1 ih1 s hm => ?_)
 obtain ⟨Φ_4, s1, u1, D2, s2, s3, s4⟩ := s
 obtain ⟨h, k2, k3⟩ := hm
 dsimp only at h k2 k3 ⊢
 unfold m_s_l9Draw_l1 at h
 refine att 6 [] rfl ?_
 refine ch h rfl ?_ ?_ <;> intro h
 ·refine att 3 [] rfl <| wm [0, 1] [7] rfl <| amm 3 [0, 2, 1, 0, 2] [0, 1] rfl rfl ?_
  obtain ⟨x3, hx3, h⟩ := bs h
  refine WM.one 3 (by kernel_rfl) (mc rfl (fun _ v Φx D w1 hq hw => Kn.of Kf.nil (ai2 0 1 rfl rfl) hw) (k_call (js := [2]) (R := [D2, ob u1]) Fun_138 rfl rfl (fun w1 hw ap hl => m_s_l6Draw_ok N (bx hw ap hl) (⟨p0.b, s3, s4⟩ : Tl1Cur) false (ph0_0.y (hw.uo ap)) k3  hx3)) rfl ?_)
  rintro v4 Φ_5 F3 ⟨ap3, fr4, v5, rfl, rfl, h4, e3, h5⟩
  replace k2 := k2.fr fr4 (ap3.q 1 rfl) (ap3.q 0 rfl)
  have rc2 : RC OTPat 3 Φ_5 ([(ob v5 ++ [])] : List (List Nat)) [.string x3.1.Kind, v5, .bool x3.1.Not] ([x3.1] : List TPat) := RC.cons (c := [.string x3.1.Kind, v5, .bool x3.1.Not]) (cells := []) ⟨v5, rfl, rfl, h4⟩ rfl (RC.nil _ _ _)
  refine WM.one 4 (by kernel_rfl) (me rfl (fun _ v Φx D w1 hq hw => Kn.of Kf.nil (ai2 0 1 rfl rfl) hw) (e_lit (vs := [(0, .agg [.string x3.1.Kind, v5, .bool x3.1.Not].toArray)]) (C := #[.string x3.1.Kind, v5, .bool x3.1.Not]) OTPat.lasts Sl_24 Zr_35 rfl rfl rfl rfl (fill_made MC_35_1 (fill_cons (C' := [.string x3.1.Kind, v5, .bool x3.1.Not]) rfl rfl rfl rfl rfl (fill_nil))) rfl rc2 rfl (RC.kn OTPat.knows rc2)) rfl ?_)
  rintro v6 Φ_6 D3 ⟨fr5, h6⟩
  replace h6 : OSl OTPat 35 3 Φ_6 ((ob v5 ++ [])) v6 ([x3.1] : List TPat) := by simpa [List.append_assoc] using h6
  replace k2 := k2.f0 fr5
  replace h5 := fr5 _ _ (by simp) h5
  refine WM.conv (S' := St w0 Φ_6 [(b_2, .cells #[.string p1, iV x1.1, u1, .slice none 0 0, .slice none 0 0] 28 (0, 0)), (b_1, .cells #[.string (⟨#[]⟩ : ByteArray), iV 0, .slice none 0 0, .slice none 0 0, .slice none 0 0] 28 (0, 0))] [((ob v5 ++ [])), ob v6, [pb0], D2, ob u1]) (fun w1 hw => hw.merge (js := [1]) rfl (SP.eq (by simp [List.append_assoc, ob_nil]))) ?_
  obtain ⟨x4, hx4, h⟩ := bs h
  refine WM.one 5 (by kernel_rfl) (me rfl (fun _ v Φx D w1 hq hw => Kn.of Kf.nil (ai2 0 1 rfl rfl) hw) (e_appO OTPat.lasts OTPat.one Sl_24 Ei_35 rfl rfl rfl rfl rfl (js := [4]) (Rr := [((ob v5 ++ [])), ob v6, [pb0], D2]) rfl k2 h6 (fun ap => ap.q 3 rfl) (fun ap => ap.q 0 rfl) hx4) rfl ?_)
  rintro v7 Φ_7 D4 ⟨⟨ap4, fr6⟩, h7⟩
  replace h5 := fr6 _ _ ((ap4.q 2 rfl) _ (by simp)) h5
  refine WM.conv (S' := St w0 Φ_7 [(b_2, .cells #[.string p1, iV x1.1, u1, .slice none 0 0, .slice none 0 0] 28 (0, 0)), (b_1, .cells #[.string (⟨#[]⟩ : ByteArray), iV 0, .slice none 0 0, .slice none 0 0, .slice none 0 0] 28 (0, 0))] [(D2 ++ ((ob v5 ++ []))), ob v7, ob v6, [pb0]]) (fun w1 hw => hw.merge (js := [4, 1]) rfl (SP.eq (by simp))) <| amm 1 [6, 2] [0, 1] rfl rfl ?_
  refine on1 7 (ms1 0 rfl nk Sz_24 rfl h7.one ?_)
  refine WM.nil (by kernel_rfl) <| att 6 [] rfl ?_
  exact lb [0, 0, 1] [0, 0] (ih1 (_, _, _, _, _, _, _) ⟨h, h7, h5⟩)
 refine atr 5 [] rfl <| kcb [2] h rfl rfl rfl rfl (fun b ap z q => m_s_l1Once_ok N b (⟨p0.b, s3, s4⟩ : Tl1Cur) 3 (ph0_0.y z) k3 q) ?_
 rintro x5 h v8 Φ_8 F4 ⟨ap5, fr7, rfl, rfl, e4, h8⟩
 replace k2 := k2.fr fr7 (ap5.q 1 rfl) (ap5.q 0 rfl)
 refine en ?_
 refine cut (σ := Hp × (List TPat) × Value × List Nat × Int × Int) (fun s => [(0, pQ pb0), (4, pQ b_1), (5, pQ b_2)]) (fun s => St w0 s.1 [(b_2, .cells #[.string p1, iV x1.1, s.2.2.1, .slice none 0 0, .slice none 0 0] 28 (0, 0)), (b_1, .cells #[.string (⟨#[]⟩ : ByteArray), iV 0, .slice none 0 0, .slice none 0 0, .slice none 0 0] 28 (0, 0))] [[pb0], s.2.2.2.1, ob s.2.2.1]) (fun s => m_s_l9Draw_j2 N p0 p1 x1 s.2.1 s.2.2.2.2.1 s.2.2.2.2.2 = some r ∧ (OSl OTPat 35 3 s.1 s.2.2.2.1 s.2.2.1 s.2.1) ∧ (s.1 pb0 = some (.cells #[pv0_0, iV s.2.2.2.2.1, iV s.2.2.2.2.2] 107 (0, 0)))) (fun s hm => ?_) (fun K => ?_)
 ·clear h
  obtain ⟨Φ_9, s5, u2, D5, s6, s7⟩ := s
  obtain ⟨h, k4, k5⟩ := hm
  dsimp only at h k4 k5 ⊢
  unfold m_s_l9Draw_j2 at h
  refine atr 3 [5] rfl <| kab h rfl rfl rfl (fun b z q => m_s_PosVars_ok N b (⟨p1, x1.1, s5, [], []⟩ : TRule) (k4.rslG OTPat.gives) (RSl.nil _ _ _) (RSl.nil _ _ _) q) ?_
  rintro x6 h v9 Φ_10 F5 ⟨ap6, fr8, v10, rfl, rfl, h9⟩
  replace k4 := k4.fr fr8 (ap6.q 2 rfl) (ap6.q 1 rfl)
  replace k5 := fr8 _ _ ((ap6.q 0 rfl) _ (by simp)) k5
  refine arr 6 [] rfl <| kcb [1] h rfl rfl rfl rfl (fun b ap z q => m_s_l1Once_ok N b (⟨p0.b, s6, s7⟩ : Tl1Cur) 3 (ph0_0.y z) k5 q) ?_
  rintro x7 h v11 Φ_11 F6 ⟨ap7, fr9, rfl, rfl, e5, h10⟩
  replace k4 := k4.fr fr9 (ap7.q 2 rfl) (ap7.q 1 rfl)
  replace h9 := h9.fr fr9 (ap7.q 0 rfl) dN
  refine en <| wtS ?_
  have k6 := OSl.nil RTCond 62 11 Φ_11
  refine cut (σ := Hp × (List TCond) × Value × Int × Int) (fun s => [(0, pQ pb0), (4, pQ b_1), (5, pQ b_2), (7, v9)]) (fun s => St w0 s.1 [(b_2, .cells #[.string p1, iV x1.1, u2, s.2.2.1, .slice none 0 0] 28 (0, 0)), (b_1, .cells #[.string (⟨#[]⟩ : ByteArray), iV 0, .slice none 0 0, .slice none 0 0, .slice none 0 0] 28 (0, 0))] [ob s.2.2.1, [pb0], ob v9, D5, ob u2]) (fun s => m_s_l9Draw_j3 N p0 p1 x1 s5 x6 s.2.1 s.2.2.2.1 s.2.2.2.2 = some r ∧ (OSl OTPat 35 3 s.1 D5 u2 s5) ∧ (OSl RS 9 1 s.1 [] v9 x6) ∧ (OSl RTCond 62 11 s.1 [] s.2.2.1 s.2.1) ∧ (s.1 pb0 = some (.cells #[pv0_0, iV s.2.2.2.1, iV s.2.2.2.2] 107 (0, 0)))) (fun s hm => ?_) (fun K => ?_)
  ·clear h
   obtain ⟨Φ_12, s8, u3, s9, s10⟩ := s
   obtain ⟨h, k4, h9, k7, k8⟩ := hm
   dsimp only at h k4 h9 k7 k8 ⊢
   unfold m_s_l9Draw_j3 at h
   refine atr 4 [] rfl <| kcb [1] h rfl rfl rfl rfl (fun b ap z q => m_s_l1Below_ok N b (⟨p0.b, s9, s10⟩ : Tl1Cur) 3 (ph0_0.y z) k8 q) ?_
   rintro x8 h v12 Φ_13 F7 ⟨ap8, fr10, rfl, rfl, e6, h11⟩
   replace k4 := k4.fr fr10 (ap8.q 3 rfl) (ap8.q 2 rfl)
   replace h9 := h9.fr fr10 (ap8.q 1 rfl) dN
   replace k7 := k7.fr fr10 (ap8.q 0 rfl) dN
   refine art 4 [] rfl <| wtS <| wt0 ?_
   have k9 := OSl.nil OTAct 66 5 Φ_13
   refine lin (σ := Hp × (List TAct) × Value × List Nat × Int × Int × Int) (fun s => [(0, pQ pb0), (4, pQ b_1), (5, pQ b_2), (7, v9), (9, iV s.2.2.2.2.1)]) (fun s => St w0 s.1 [(b_2, .cells #[.string p1, iV x1.1, u2, u3, s.2.2.1] 28 (0, 0)), (b_1, .cells #[.string (⟨#[]⟩ : ByteArray), iV 0, .slice none 0 0, .slice none 0 0, .slice none 0 0] 28 (0, 0))] [s.2.2.2.1, ob s.2.2.1, [pb0], ob u3, ob v9, D5, ob u2]) (fun m s => m_s_l9Draw_l4 N p0 p1 x1 s5 x6 s8 m s.2.1 s.2.2.2.2.1 s.2.2.2.2.2.1 s.2.2.2.2.2.2 = some r ∧ (OSl OTPat 35 3 s.1 D5 u2 s5) ∧ (OSl RS 9 1 s.1 [] v9 x6) ∧ (OSl RTCond 62 11 s.1 [] u3 s8) ∧ (OSl OTAct 66 5 s.1 s.2.2.2.1 s.2.2.1 s.2.1) ∧ (s.1 pb0 = some (.cells #[pv0_0, iV s.2.2.2.2.2.1, iV s.2.2.2.2.2.2] 107 (0, 0)))) (Φ_13, ([] : List TAct), (.slice none 0 0), [], wz (1 + x8.1), x8.2.i, x8.2.h) N ⟨h, k4, h9, k7, k9, h11⟩ (sx [0, 0, 0, 0, 0, 0, 0] [0, 0]) (fun n4 ih4 s hm => ?_)
   obtain ⟨Φ_14, s11, u4, D6, s12, s13, s14⟩ := s
   obtain ⟨h, k4, h9, k7, k10, k11⟩ := hm
   dsimp only at h k4 h9 k7 k10 k11 ⊢
   unfold m_s_l9Draw_l4 at h
   refine att 6 [] rfl ?_
   refine ch h rfl ?_ ?_ <;> intro h
   ·refine atr 7 [5] rfl <| qc h (m_s_PosCount_ok N · (⟨p1, x1.1, s5, s8, s11⟩ : TRule) (k4.rslG OTPat.gives) k7.rsl (k10.rslG OTAct.gives) ·) rfl rfl rfl fun x9 h => kcb [2] h rfl rfl rfl rfl (fun b ap z q => m_s_l8Draw_ok N b (⟨p0.b, s13, s14⟩ : Tl1Cur) x9 (ph0_0.y z) k11 q) ?_
    rintro x10 h v13 Φ_15 F8 ⟨ap9, fr11, v14, rfl, rfl, h12, e7, h13⟩
    replace k4 := k4.fr fr11 (ap9.q 5 rfl) (ap9.q 4 rfl)
    replace h9 := h9.fr fr11 (ap9.q 3 rfl) dN
    replace k7 := k7.fr fr11 (ap9.q 2 rfl) dN
    replace k10 := k10.fr fr11 (ap9.q 1 rfl) (ap9.q 0 rfl)
    refine lnz Zr_66 rfl fun b_3 => soN 0 Sz_66 rfl ⟨rfl, rfl, h12.one, rfl, rfl, trivial⟩ rfl ?_
    refine art 7 [] rfl ?_
    refine lin (σ := Hp × (List TExpr) × Int) (fun s => [(0, pQ pb0), (4, pQ b_1), (5, pQ b_2), (7, v9), (9, iV s12), (10, pQ b_3), (11, iV s.2.2)]) (fun s => St w0 s.1 [(b_3, .cells #[iV x10.1.Kind, .string x10.1.Name, v14, iV x10.1.N, .string x10.1.Undo] 66 (0, 0)), (b_2, .cells #[.string p1, iV x1.1, u2, u3, u4] 28 (0, 0)), (b_1, .cells #[.string (⟨#[]⟩ : ByteArray), iV 0, .slice none 0 0, .slice none 0 0, .slice none 0 0] 28 (0, 0))] [ob v14, [pb0], D6, ob u4, ob u3, ob v9, D5, ob u2]) (fun m s => m_s_l9Draw_l5 N x6 s11 s12 (m_s_l9Draw_l4 N p0 p1 x1 s5 x6 s8 n4) x10 m s.2.1 s.2.2 = some r ∧ (OSl OTPat 35 3 s.1 D5 u2 s5) ∧ (OSl RS 9 1 s.1 [] v9 x6) ∧ (OSl RTCond 62 11 s.1 [] u3 s8) ∧ (OSl OTAct 66 5 s.1 D6 u4 s11) ∧ (OSl RTExpr 116 11 s.1 [] v14 s.2.1) ∧ (s.1 pb0 = some (.cells #[pv0_0, iV x10.2.i, iV x10.2.h] 107 (0, 0)))) (Φ_15, x10.1.Args, 0) N ⟨h, k4, h9, k7, k10, h12, h13⟩ (sx [0, 0, 0, 0, 0, 0, 0, 0] [0, 0, 0]) (fun n5 ih5 s hm => ?_)
    obtain ⟨Φ_16, s15, s16⟩ := s
    obtain ⟨h, k4, h9, k7, k10, k12, k13⟩ := hm
    dsimp only at h k4 h9 k7 k10 k12 k13 ⊢
    unfold m_s_l9Draw_l5 at h
    refine atr 6 [2, 0] rfl <| lno k12 rfl <| la rfl <| en ?_
    refine ch h rfl ?_ ?_ <;> intro h
    ·refine att 4 [] rfl ?_
     obtain ⟨x11, hx11, h⟩ := bs h
     obtain ⟨cs1, F9, h14, r1⟩ := k12.focusF RTExpr.flat hx11
     obtain ⟨rfl, -⟩ := r1
     refine WT.mix (Kn w0 Φ_16 (ob u3 ++ (ob u4 ++ ob v14)) [(b_3, .cells #[iV x10.1.Kind, .string x10.1.Name, v14, iV x10.1.N, .string x10.1.Undo] 66 (0, 0)), (b_2, .cells #[.string p1, iV x1.1, u2, u3, u4] 28 (0, 0)), (b_1, .cells #[.string (⟨#[]⟩ : ByteArray), iV 0, .slice none 0 0, .slice none 0 0, .slice none 0 0] 28 (0, 0))]) (fun i => match i with | 13 => false | _ => true) mixed (fun _ h => h.drew) <| mq 0 rfl (by kernel_rfl) (kn Kf.id (ai3 0 1 2 rfl rfl rfl)) (q_fieldAddr Fld_66_2 rfl) rfl ?_
     refine mq 1 rfl (by kernel_rfl) (kn Kf.id (ai3 0 1 2 rfl rfl rfl)) (q_load1 T1_64 rfl (fun w1 hw => hw.rgO (i := 0) rfl 2 1 [v14] rfl)) rfl <| ma 2 rfl (by kernel_rfl) (kn Kf.id (ai3 0 1 2 rfl rfl rfl)) rfl <| mq 3 rfl (by kernel_rfl) (kn Kf.id (ai3 0 1 2 rfl rfl rfl)) (q_fieldAddr Fld_66_2 rfl) rfl <| mq 4 rfl (by kernel_rfl) (kn Kf.id (ai3 0 1 2 rfl rfl rfl)) (q_load1 T1_64 rfl (fun w1 hw => hw.rgO (i := 0) rfl 2 1 [v14] rfl)) rfl <| ma 5 rfl (by kernel_rfl) (kn Kf.id (ai3 0 1 2 rfl rfl rfl)) rfl ?_
     refine mq 6 rfl (by kernel_rfl) (kn Kf.id (ai3 0 1 2 rfl rfl rfl)) (q_indexAddrH Sl_64 rfl rfl h14 hx11) rfl <| mq 7 rfl (by kernel_rfl) (kn Kf.id (ai3 0 1 2 rfl rfl rfl)) (q_fieldAddr Fld_116_1 rfl) rfl <| mq 8 rfl (by kernel_rfl) (kn Kf.id (ai3 0 1 2 rfl rfl rfl)) (q_loadN Tn_60 rfl (fun w1 hw => hw.rg (List.mem_append.2 (.inr (List.mem_append.2 (.inr h14.hb)))) (h14.rg.of_eq 1 5 rfl rfl : rg _ _ _ [iV x11.L.K, .string x11.L.S, iV x11.L.V.K, iV x11.L.V.N, .string x11.L.V.S])) rfl) rfl <| ma 9 rfl (by kernel_rfl) (kn Kf.id (ai3 0 1 2 rfl rfl rfl)) rfl ?_
     obtain ⟨x12, hx12, h⟩ := bs h
     refine on1 10 (mp rfl (fun _ w1 hw => Kn.of Kf.id (ai3 0 1 2 rfl rfl rfl) hw) (pcP rfl (m_s_l9Fit_ok N · x11.L x6 h9.rsl hx12)) rfl ?_)
     refine mqT 11 [12, 13] rfl (by kernel_rfl) (kn Kf.id (ai3 0 1 2 rfl rfl rfl)) (q_indexAddrH Sl_64 rfl rfl h14 hx11) rfl <| mq 12 rfl (by kernel_rfl) (kn Kf.id (ai3 0 1 2 rfl rfl rfl)) (q_fieldAddr Fld_116_1 rfl) rfl ?_
     refine WM.one 13 (by kernel_rfl) (mu rfl (fun hc => by cases hc) (u_setH (js := [0]) (Rr := [[pb0], D6, ob u4, ob u3, ob v9, D5, ob u2]) (o := 1) (vs := [iV x12.K, .string x12.S, iV x12.V.K, iV x12.V.N, .string x12.V.S]) (cs' := [.string x11.Op, iV x12.K, .string x12.S, iV x12.V.K, iV x12.V.N, .string x12.V.S, iV x11.R.K, .string x11.R.S, iV x11.R.V.K, iV x11.R.V.N, .string x11.R.V.S]) RTExpr.lasts Sz_60 rfl rfl rfl rfl ⟨rfl, rfl, rfl, rfl, rfl, trivial⟩ rfl h14 rfl rfl (fun ap => dN)) rfl ?_)
     rintro Φ_17 D8 ⟨⟨ap10, fr12⟩, h15⟩
     replace k4 := k4.fr fr12 (ap10.q 6 rfl) (ap10.q 5 rfl)
     replace h9 := h9.fr fr12 (ap10.q 4 rfl) dN
     replace k7 := k7.fr fr12 (ap10.q 3 rfl) dN
     replace k10 := k10.fr fr12 (ap10.q 2 rfl) (ap10.q 1 rfl)
     replace k13 := fr12 _ _ ((ap10.q 0 rfl) _ (by simp)) k13
     refine WM.nil (by kernel_rfl) <| atr 5 [2, 0] rfl <| lih h15 hx11 rfl <| lf Fld_116_0 rfl rfl rfl <| lgx 0 0 h15.rg rfl <| la rfl <| en ?_
     refine ch h rfl ?_ ?_ <;> intro h
     ·refine WT.mix (Kn w0 Φ_17 (ob u3 ++ (ob u4 ++ ob v14)) [(b_3, .cells #[iV x10.1.Kind, .string x10.1.Name, v14, iV x10.1.N, .string x10.1.Undo] 66 (0, 0)), (b_2, .cells #[.string p1, iV x1.1, u2, u3, u4] 28 (0, 0)), (b_1, .cells #[.string (⟨#[]⟩ : ByteArray), iV 0, .slice none 0 0, .slice none 0 0, .slice none 0 0] 28 (0, 0))]) (fun i => match i with | 13 => false | _ => true) mixed (fun _ h => h.drew) <| mq 0 rfl (by kernel_rfl) (kn Kf.id (ai3 0 1 2 rfl rfl rfl)) (q_fieldAddr Fld_66_2 rfl) rfl ?_
      refine mq 1 rfl (by kernel_rfl) (kn Kf.id (ai3 0 1 2 rfl rfl rfl)) (q_load1 T1_64 rfl (fun w1 hw => hw.rgO (i := 0) rfl 2 1 [v14] rfl)) rfl <| ma 2 rfl (by kernel_rfl) (kn Kf.id (ai3 0 1 2 rfl rfl rfl)) rfl <| mq 3 rfl (by kernel_rfl) (kn Kf.id (ai3 0 1 2 rfl rfl rfl)) (q_fieldAddr Fld_66_2 rfl) rfl <| mq 4 rfl (by kernel_rfl) (kn Kf.id (ai3 0 1 2 rfl rfl rfl)) (q_load1 T1_64 rfl (fun w1 hw => hw.rgO (i := 0) rfl 2 1 [v14] rfl)) rfl <| ma 5 rfl (by kernel_rfl) (kn Kf.id (ai3 0 1 2 rfl rfl rfl)) rfl ?_
      refine mq 6 rfl (by kernel_rfl) (kn Kf.id (ai3 0 1 2 rfl rfl rfl)) (q_indexAddrH Sl_64 rfl rfl h15 hx11) rfl <| mq 7 rfl (by kernel_rfl) (kn Kf.id (ai3 0 1 2 rfl rfl rfl)) (q_fieldAddr Fld_116_2 rfl) rfl <| mq 8 rfl (by kernel_rfl) (kn Kf.id (ai3 0 1 2 rfl rfl rfl)) (q_loadN Tn_60 rfl (fun w1 hw => hw.rg (List.mem_append.2 (.inr (List.mem_append.2 (.inr h15.hb)))) (h15.rg.of_eq 6 5 rfl rfl : rg _ _ _ [iV x11.R.K, .string x11.R.S, iV x11.R.V.K, iV x11.R.V.N, .string x11.R.V.S])) rfl) rfl <| ma 9 rfl (by kernel_rfl) (kn Kf.id (ai3 0 1 2 rfl rfl rfl)) rfl ?_
      obtain ⟨x13, hx13, h⟩ := bs h
      refine on1 10 (mp rfl (fun _ w1 hw => Kn.of Kf.id (ai3 0 1 2 rfl rfl rfl) hw) (pcP rfl (m_s_l9Fit_ok N · x11.R x6 h9.rsl hx13)) rfl ?_)
      refine mqT 11 [12, 13] rfl (by kernel_rfl) (kn Kf.id (ai3 0 1 2 rfl rfl rfl)) (q_indexAddrH Sl_64 rfl rfl h15 hx11) rfl <| mq 12 rfl (by kernel_rfl) (kn Kf.id (ai3 0 1 2 rfl rfl rfl)) (q_fieldAddr Fld_116_2 rfl) rfl ?_
      refine WM.one 13 (by kernel_rfl) (mu rfl (fun hc => by cases hc) (u_setH (js := [0]) (Rr := [[pb0], D6, ob u4, ob u3, ob v9, D5, ob u2]) (o := 6) (vs := [iV x13.K, .string x13.S, iV x13.V.K, iV x13.V.N, .string x13.V.S]) (cs' := [.string x11.Op, iV x12.K, .string x12.S, iV x12.V.K, iV x12.V.N, .string x12.V.S, iV x13.K, .string x13.S, iV x13.V.K, iV x13.V.N, .string x13.V.S]) RTExpr.lasts Sz_60 rfl rfl rfl rfl ⟨rfl, rfl, rfl, rfl, rfl, trivial⟩ rfl h15 rfl rfl (fun ap => dN)) rfl ?_)
      rintro Φ_18 D9 ⟨⟨ap11, fr13⟩, h16⟩
      replace k4 := k4.fr fr13 (ap11.q 6 rfl) (ap11.q 5 rfl)
      replace h9 := h9.fr fr13 (ap11.q 4 rfl) dN
      replace k7 := k7.fr fr13 (ap11.q 3 rfl) dN
      replace k10 := k10.fr fr13 (ap11.q 2 rfl) (ap11.q 1 rfl)
      replace k13 := fr13 _ _ ((ap11.q 0 rfl) _ (by simp)) k13
      refine WM.nil (by kernel_rfl) <| att 6 [] rfl ?_
      have h17 := h16.unfocusF RTExpr.flat (x' := (⟨x11.Op, x12, x13⟩ : TExpr)) ⟨rfl, rfl⟩
      exact lb [0, 0, 0, 0, 0, 0, 0, 0] [0, 0, 0] (ih5 (_, _, _) ⟨h, k4, h9, k7, k10, h17, k13⟩)
     refine att 7 [] rfl ?_
     have h18 := h15.unfocusF RTExpr.flat (x' := (⟨x11.Op, x12, x11.R⟩ : TExpr)) ⟨rfl, rfl⟩
     exact lb [0, 0, 0, 0, 0, 0, 0, 0] [0, 0, 0] (ih5 (_, _, _) ⟨h, k4, h9, k7, k10, h18, k13⟩)
    refine atr 5 [4, 32, 5] rfl ?_
    have rc3 : RC OTAct 5 Φ_16 ([(ob v14 ++ [])] : List (List Nat)) [iV x10.1.Kind, .string x10.1.Name, v14, iV x10.1.N, .string x10.1.Undo] ([(⟨x10.1.Kind, x10.1.Name, s15, x10.1.N, x10.1.Undo⟩ : TAct)] : List TAct) := RC.cons (c := [iV x10.1.Kind, .string x10.1.Name, v14, iV x10.1.N, .string x10.1.Undo]) (cells := []) ⟨v14, rfl, rfl, k12⟩ rfl (RC.nil _ _ _)
    refine le' (e_lit (vs := [(0, .agg [iV x10.1.Kind, .string x10.1.Name, v14, iV x10.1.N, .string x10.1.Undo].toArray)]) (C := #[iV x10.1.Kind, .string x10.1.Name, v14, iV x10.1.N, .string x10.1.Undo]) OTAct.lasts Sl_26 Zr_66 rfl rfl rfl rfl (fill_made MC_66_1 (fill_cons (C' := [iV x10.1.Kind, .string x10.1.Name, v14, iV x10.1.N, .string x10.1.Undo]) rfl rfl rfl rfl rfl (fill_nil))) rfl rc3 rfl (RC.kn OTAct.knows rc3)) rfl ?_
    rintro v15 Φ_19 D10 ⟨fr14, h19⟩
    replace h19 : OSl OTAct 66 5 Φ_19 ((ob v14 ++ [])) v15 ([(⟨x10.1.Kind, x10.1.Name, s15, x10.1.N, x10.1.Undo⟩ : TAct)] : List TAct) := by simpa [List.append_assoc] using h19
    replace k4 := k4.f0 fr14
    replace h9 := h9.f0 fr14
    replace k7 := k7.f0 fr14
    replace k10 := k10.f0 fr14
    replace k13 := fr14 _ _ (by simp) k13
    refine wlL [((ob v14 ++ [])), ob v15, [pb0], D6, ob u4, ob u3, ob v9, D5, ob u2] (smg [1] rfl (SP.eq (by simp [List.append_assoc, ob_nil]))) ?_
    obtain ⟨x14, hx14, h⟩ := bs h
    refine le' (e_appO OTAct.lasts OTAct.one Sl_26 Ei_66 rfl rfl rfl rfl rfl (js := [4]) (Rr := [((ob v14 ++ [])), ob v15, [pb0], D6, ob u3, ob v9, D5, ob u2]) rfl k10 h19 (fun ap => ap.q 3 rfl) (fun ap => ap.q 0 rfl) hx14) rfl ?_
    rintro v16 Φ_20 D11 ⟨⟨ap12, fr15⟩, h20⟩
    replace k4 := k4.fr fr15 (ap12.q 7 rfl) (ap12.q 6 rfl)
    replace h9 := h9.fr fr15 (ap12.q 5 rfl) dN
    replace k7 := k7.fr fr15 (ap12.q 4 rfl) dN
    replace k13 := fr15 _ _ ((ap12.q 2 rfl) _ (by simp)) k13
    refine wlL [(D6 ++ ((ob v14 ++ []))), ob v16, ob v15, [pb0], ob u3, ob v9, D5, ob u2] (smg [4, 1] rfl (SP.eq (by simp))) <| lf Fld_28_4 rfl rfl rfl <| so1 1 Sz_26 rfl h20.one ?_
    refine art 7 [] rfl ?_
    exact lb [0, 0, 1, 1, 1, 1, 1] [1, 1] (ih4 (_, _, _, _, _, _, _) ⟨h, k4, h9, k7, h20, k13⟩)
   refine atr 4 [5] rfl <| soN 1 Sz_28 rfl ⟨rfl, rfl, k4.one, k7.one, k10.one, trivial⟩ rfl ?_
   refine en ?_
   exact rtg [6, 5, 3, 1, 0, 0] hF (resOk.one (rv_cell Tn_28 rfl (fun w1 hw => hw.rgO (i := 1) rfl 0 5 [.string p1, iV x1.1, u2, u3, u4] rfl) rfl)) rfl (by cases h; exact fun w1 hw => ⟨u2, D5, u3, u4, D6, rfl, rfl, k4, k7, k10, rfl, k11⟩)
  refine ch h rfl ?_ ?_ <;> intro h
  ·refine sr <| la rfl <| kcb [1] h rfl rfl rfl rfl (fun b ap z q => m_s_l7Draw_ok N b (⟨p0.b, x7.2.i, x7.2.h⟩ : Tl1Cur) (ph0_0.y z) h10 q) ?_
   rintro x15 h v17 Φ_21 F10 ⟨ap13, fr16, rfl, rfl, e8, h21⟩
   replace k4 := k4.fr fr16 (ap13.q 3 rfl) (ap13.q 2 rfl)
   replace h9 := h9.fr fr16 (ap13.q 1 rfl) dN
   replace k6 := k6.fr fr16 (ap13.q 0 rfl) dN
   refine lnz Zr_62 rfl fun b_4 => soN 0 Sz_62 rfl ⟨rfl, rfl, rfl, rfl, rfl, rfl, rfl, rfl, rfl, rfl, rfl, trivial⟩ rfl ?_
   refine arr 6 [1, 5] rfl <| qc h (m_s_l9Fit_ok N · x15.1.L x6 h9.rsl ·) rfl rfl rfl fun x16 h => lf Fld_62_1 rfl rfl rfl <| soN 0 Sz_60 rfl ⟨rfl, rfl, rfl, rfl, rfl, trivial⟩ rfl ?_
   refine arr 6 [6, 5] rfl <| qc h (m_s_l9Fit_ok N · x15.1.R x6 h9.rsl ·) rfl rfl rfl fun x17 h => lf Fld_62_2 rfl rfl rfl <| soN 0 Sz_60 rfl ⟨rfl, rfl, rfl, rfl, rfl, trivial⟩ rfl ?_
   refine arr 5 [3, 32, 11] rfl ?_
   have rc4 : RC RTCond 11 Φ_21 ([[]] : List (List Nat)) [iV x15.1.Op, iV x16.K, .string x16.S, iV x16.V.K, iV x16.V.N, .string x16.V.S, iV x17.K, .string x17.S, iV x17.V.K, iV x17.V.N, .string x17.V.S] ([(⟨x15.1.Op, x16, x17⟩ : TCond)] : List TCond) := RC.cons (c := [iV x15.1.Op, iV x16.K, .string x16.S, iV x16.V.K, iV x16.V.N, .string x16.V.S, iV x17.K, .string x17.S, iV x17.V.K, iV x17.V.N, .string x17.V.S]) (cells := []) ⟨rfl, rfl⟩ rfl (RC.nil _ _ _)
   refine le' (e_lit (vs := [(0, .agg [iV x15.1.Op, iV x16.K, .string x16.S, iV x16.V.K, iV x16.V.N, .string x16.V.S, iV x17.K, .string x17.S, iV x17.V.K, iV x17.V.N, .string x17.V.S].toArray)]) (C := #[iV x15.1.Op, iV x16.K, .string x16.S, iV x16.V.K, iV x16.V.N, .string x16.V.S, iV x17.K, .string x17.S, iV x17.V.K, iV x17.V.N, .string x17.V.S]) RTCond.lasts Sl_25 Zr_62 rfl rfl rfl rfl (fill_made MC_62_1 (fill_cons (C' := [iV x15.1.Op, iV x16.K, .string x16.S, iV x16.V.K, iV x16.V.N, .string x16.V.S, iV x17.K, .string x17.S, iV x17.V.K, iV x17.V.N, .string x17.V.S]) rfl rfl rfl rfl rfl (fill_nil))) rfl rc4 rfl (by simpa using Kw.nil)) rfl ?_
   rintro v18 Φ_22 D12 ⟨fr17, h22⟩
   replace h22 : OSl RTCond 62 11 Φ_22 [] v18 ([(⟨x15.1.Op, x16, x17⟩ : TCond)] : List TCond) := by simpa using h22
   replace k4 := k4.f0 fr17
   replace h9 := h9.f0 fr17
   replace k6 := k6.f0 fr17
   replace h21 := fr17 _ _ (by simp) h21
   obtain ⟨x18, hx18, h⟩ := bs h
   refine le' (e_appF RTCond.lasts RTCond.one RTCond.flat Sl_25 Ei_62 rfl rfl rfl rfl rfl (js := [2]) (Rr := [ob v18, [pb0], ob v9, D5, ob u2]) rfl k6 h22.rsl hx18) rfl ?_
   rintro v19 Φ_23 D13 ⟨⟨ap14, fr18⟩, h23⟩
   replace k4 := k4.fr fr18 (ap14.q 4 rfl) (ap14.q 3 rfl)
   replace h9 := h9.fr fr18 (ap14.q 2 rfl) dN
   replace h21 := fr18 _ _ ((ap14.q 1 rfl) _ (by simp)) h21
   refine lf Fld_28_3 rfl rfl rfl <| so1 1 Sz_25 rfl h23.one ?_
   refine en ?_
   exact wo [0, 1, 1, 1, 1] [1, 1] (K (_, _, _, _, _) ⟨h, k4, h9, h23, h21⟩)
  refine WT.skip ?_
  exact wo [0, 0, 0, 0, 0] [0, 0] (K (_, _, _, _, _) ⟨h, k4, h9, k6, h10⟩)
 refine ch h rfl ?_ ?_ <;> intro h
 ·refine wm [0, 1] [7] rfl <| amm 3 [0, 2, 1, 0, 2] [0, 1] rfl rfl ?_
  obtain ⟨x19, hx19, h⟩ := bs h
  refine WM.one 3 (by kernel_rfl) (mc rfl (fun _ v Φx D w1 hq hw => Kn.of Kf.nil (ai2 0 1 rfl rfl) hw) (k_call (js := [0]) (R := [D2, ob u1]) Fun_138 rfl rfl (fun w1 hw ap hl => m_s_l6Draw_ok N (bx hw ap hl) (⟨p0.b, x5.2.i, x5.2.h⟩ : Tl1Cur) true (ph0_0.y (hw.uo ap)) h8  hx19)) rfl ?_)
  rintro v20 Φ_24 F11 ⟨ap15, fr19, v21, rfl, rfl, h24, e9, h25⟩
  replace k2 := k2.fr fr19 (ap15.q 1 rfl) (ap15.q 0 rfl)
  have rc5 : RC OTPat 3 Φ_24 ([(ob v21 ++ [])] : List (List Nat)) [.string x19.1.Kind, v21, .bool x19.1.Not] ([x19.1] : List TPat) := RC.cons (c := [.string x19.1.Kind, v21, .bool x19.1.Not]) (cells := []) ⟨v21, rfl, rfl, h24⟩ rfl (RC.nil _ _ _)
  refine WM.one 4 (by kernel_rfl) (me rfl (fun _ v Φx D w1 hq hw => Kn.of Kf.nil (ai2 0 1 rfl rfl) hw) (e_lit (vs := [(0, .agg [.string x19.1.Kind, v21, .bool x19.1.Not].toArray)]) (C := #[.string x19.1.Kind, v21, .bool x19.1.Not]) OTPat.lasts Sl_24 Zr_35 rfl rfl rfl rfl (fill_made MC_35_1 (fill_cons (C' := [.string x19.1.Kind, v21, .bool x19.1.Not]) rfl rfl rfl rfl rfl (fill_nil))) rfl rc5 rfl (RC.kn OTPat.knows rc5)) rfl ?_)
  rintro v22 Φ_25 D14 ⟨fr20, h26⟩
  replace h26 : OSl OTPat 35 3 Φ_25 ((ob v21 ++ [])) v22 ([x19.1] : List TPat) := by simpa [List.append_assoc] using h26
  replace k2 := k2.f0 fr20
  replace h25 := fr20 _ _ (by simp) h25
  refine WM.conv (S' := St w0 Φ_25 [(b_2, .cells #[.string p1, iV x1.1, u1, .slice none 0 0, .slice none 0 0] 28 (0, 0)), (b_1, .cells #[.string (⟨#[]⟩ : ByteArray), iV 0, .slice none 0 0, .slice none 0 0, .slice none 0 0] 28 (0, 0))] [((ob v21 ++ [])), ob v22, [pb0], D2, ob u1]) (fun w1 hw => hw.merge (js := [1]) rfl (SP.eq (by simp [List.append_assoc, ob_nil]))) ?_
  obtain ⟨x20, hx20, h⟩ := bs h
  refine WM.one 5 (by kernel_rfl) (me rfl (fun _ v Φx D w1 hq hw => Kn.of Kf.nil (ai2 0 1 rfl rfl) hw) (e_appO OTPat.lasts OTPat.one Sl_24 Ei_35 rfl rfl rfl rfl rfl (js := [4]) (Rr := [((ob v21 ++ [])), ob v22, [pb0], D2]) rfl k2 h26 (fun ap => ap.q 3 rfl) (fun ap => ap.q 0 rfl) hx20) rfl ?_)
  rintro v23 Φ_26 D15 ⟨⟨ap16, fr21⟩, h27⟩
  replace h25 := fr21 _ _ ((ap16.q 2 rfl) _ (by simp)) h25
  refine WM.conv (S' := St w0 Φ_26 [(b_2, .cells #[.string p1, iV x1.1, u1, .slice none 0 0, .slice none 0 0] 28 (0, 0)), (b_1, .cells #[.string (⟨#[]⟩ : ByteArray), iV 0, .slice none 0 0, .slice none 0 0, .slice none 0 0] 28 (0, 0))] [(D2 ++ ((ob v21 ++ []))), ob v23, ob v22, [pb0]]) (fun w1 hw => hw.merge (js := [4, 1]) rfl (SP.eq (by simp))) <| amm 1 [6, 2] [0, 1] rfl rfl ?_
  refine on1 7 (ms1 0 rfl nk Sz_24 rfl h27.one ?_)
  refine WM.nil (by kernel_rfl) ?_
  exact wo [3, 0, 0] [0, 0] (K (_, _, _, _, _, _) ⟨h, h27, h25⟩)
 refine WT.skip ?_
 exact wo [0, 0, 0] [0, 0] (K (_, _, _, _, _, _) ⟨h, k2, h8⟩)
theorem m_s_l10Draw_ok (w0 : Base Ψ Φ [[pb0]].flatten) (p0 : Tl1Cur) (ph0_0 : RSl (RI .u8) 1 Ψ pG0_0 pv0_0 p0.b) (pp0 : Φ pb0 = some (.cells #[pv0_0, iV p0.i, iV p0.h] 107 (0, 0))) {r : TDef × Tl1Cur} (h : m_s_l10Draw N p0 = some r) :
  Calls prog 62 [pQ pb0].toArray w0.w (PostG Φ w0.w [[pb0]].flatten (fun Φ' Fs v => ∃ (sr_0_0 : Value) (Dr_0_0 : List Nat), v = .agg [.string r.1.Name, sr_0_0].toArray ∧ Fs = [ob sr_0_0, Dr_0_0, [pb0]] ∧ OSl OTRule 28 5 Φ' Dr_0_0 sr_0_0 r.1.Rules ∧ r.2.b = p0.b ∧ Φ' pb0 = some (.cells #[pv0_0, iV r.2.i, iV r.2.h] 107 (0, 0)))) := by
 refine eL func62 rfl ntmps62 rfl (L := [[pb0]]) w0 (fun hF => ?_)
 unfold m_s_l10Draw at h
 refine sr <| lnz Zr_38 rfl fun b_1 => arr 4 [] rfl ?_
 have rc1 : RC RS 1 Φ ([[], [], []] : List (List Nat)) [.string (⟨#[102, 108, 111, 119]⟩ : ByteArray), .string (⟨#[115, 104, 105, 112]⟩ : ByteArray), .string (⟨#[120]⟩ : ByteArray)] ([(⟨#[102, 108, 111, 119]⟩ : ByteArray), (⟨#[115, 104, 105, 112]⟩ : ByteArray), (⟨#[120]⟩ : ByteArray)] : List ByteArray) := RC.cons (c := [.string (⟨#[102, 108, 111, 119]⟩ : ByteArray)]) (cells := [.string (⟨#[115, 104, 105, 112]⟩ : ByteArray), .string (⟨#[120]⟩ : ByteArray)]) ⟨rfl, rfl⟩ rfl (RC.cons (c := [.string (⟨#[115, 104, 105, 112]⟩ : ByteArray)]) (cells := [.string (⟨#[120]⟩ : ByteArray)]) ⟨rfl, rfl⟩ rfl (RC.cons (c := [.string (⟨#[120]⟩ : ByteArray)]) (cells := []) ⟨rfl, rfl⟩ rfl (RC.nil _ _ _)))
 refine le' (e_lit (vs := [(0, .string (⟨#[102, 108, 111, 119]⟩ : ByteArray)), (1, .string (⟨#[115, 104, 105, 112]⟩ : ByteArray)), (2, .string (⟨#[120]⟩ : ByteArray))]) (C := #[.string (⟨#[102, 108, 111, 119]⟩ : ByteArray), .string (⟨#[115, 104, 105, 112]⟩ : ByteArray), .string (⟨#[120]⟩ : ByteArray)]) RS.lasts Sl_68 Zr_9 rfl rfl rfl rfl (fill_made MC_9_3 (fill_cons (C' := [.string (⟨#[102, 108, 111, 119]⟩ : ByteArray), .string ⟨#[]⟩, .string ⟨#[]⟩]) rfl rfl rfl rfl rfl (fill_cons (C' := [.string (⟨#[102, 108, 111, 119]⟩ : ByteArray), .string (⟨#[115, 104, 105, 112]⟩ : ByteArray), .string ⟨#[]⟩]) rfl rfl rfl rfl rfl (fill_cons (C' := [.string (⟨#[102, 108, 111, 119]⟩ : ByteArray), .string (⟨#[115, 104, 105, 112]⟩ : ByteArray), .string (⟨#[120]⟩ : ByteArray)]) rfl rfl rfl rfl rfl (fill_nil))))) rfl rc1 rfl (by simpa using Kw.nil)) rfl ?_
 rintro v1 Φ_1 D1 ⟨fr1, h1⟩
 replace h1 : OSl RS 9 1 Φ_1 [] v1 ([(⟨#[102, 108, 111, 119]⟩ : ByteArray), (⟨#[115, 104, 105, 112]⟩ : ByteArray), (⟨#[120]⟩ : ByteArray)] : List ByteArray) := by simpa using h1
 replace pp0 := fr1 _ _ (by simp) pp0
 refine kcb [1] h rfl rfl rfl rfl (fun b ap z q => m_s_l1Str_ok N b p0 ([(⟨#[102, 108, 111, 119]⟩ : ByteArray), (⟨#[115, 104, 105, 112]⟩ : ByteArray), (⟨#[120]⟩ : ByteArray)] : List ByteArray) (ph0_0.y z) pp0 (h1.rsl.x (Dj.app (ap.q 0 rfl) dN)) q) ?_
 rintro x1 h v2 Φ_2 F1 ⟨ap1, fr2, rfl, rfl, e1, h2⟩
 refine lq (q_build (vs := [(0, .string x1.1)]) (C := #[.string x1.1, .slice none 0 0]) Pl_38 Zr_38 rfl (fill_cons (C' := [.string x1.1, .slice none 0 0]) rfl rfl rfl rfl rfl (fill_nil))) rfl <| lnz Zr_38 rfl fun b_2 => soN 0 Sz_38 rfl ⟨rfl, rfl, trivial⟩ rfl ?_
 refine en <| sr ?_
 have rc2 : RC RS 1 Φ_2 ([[], [], [], []] : List (List Nat)) [.string (⟨#[114, 49]⟩ : ByteArray), .string (⟨#[114, 50]⟩ : ByteArray), .string (⟨#[114, 51]⟩ : ByteArray), .string (⟨#[114, 52]⟩ : ByteArray)] ([(⟨#[114, 49]⟩ : ByteArray), (⟨#[114, 50]⟩ : ByteArray), (⟨#[114, 51]⟩ : ByteArray), (⟨#[114, 52]⟩ : ByteArray)] : List ByteArray) := RC.cons (c := [.string (⟨#[114, 49]⟩ : ByteArray)]) (cells := [.string (⟨#[114, 50]⟩ : ByteArray), .string (⟨#[114, 51]⟩ : ByteArray), .string (⟨#[114, 52]⟩ : ByteArray)]) ⟨rfl, rfl⟩ rfl (RC.cons (c := [.string (⟨#[114, 50]⟩ : ByteArray)]) (cells := [.string (⟨#[114, 51]⟩ : ByteArray), .string (⟨#[114, 52]⟩ : ByteArray)]) ⟨rfl, rfl⟩ rfl (RC.cons (c := [.string (⟨#[114, 51]⟩ : ByteArray)]) (cells := [.string (⟨#[114, 52]⟩ : ByteArray)]) ⟨rfl, rfl⟩ rfl (RC.cons (c := [.string (⟨#[114, 52]⟩ : ByteArray)]) (cells := []) ⟨rfl, rfl⟩ rfl (RC.nil _ _ _))))
 refine le' (e_lit (vs := [(0, .string (⟨#[114, 49]⟩ : ByteArray)), (1, .string (⟨#[114, 50]⟩ : ByteArray)), (2, .string (⟨#[114, 51]⟩ : ByteArray)), (3, .string (⟨#[114, 52]⟩ : ByteArray))]) (C := #[.string (⟨#[114, 49]⟩ : ByteArray), .string (⟨#[114, 50]⟩ : ByteArray), .string (⟨#[114, 51]⟩ : ByteArray), .string (⟨#[114, 52]⟩ : ByteArray)]) RS.lasts Sl_68 Zr_9 rfl rfl rfl rfl (fill_made MC_9_4 (fill_cons (C' := [.string (⟨#[114, 49]⟩ : ByteArray), .string ⟨#[]⟩, .string ⟨#[]⟩, .string ⟨#[]⟩]) rfl rfl rfl rfl rfl (fill_cons (C' := [.string (⟨#[114, 49]⟩ : ByteArray), .string (⟨#[114, 50]⟩ : ByteArray), .string ⟨#[]⟩, .string ⟨#[]⟩]) rfl rfl rfl rfl rfl (fill_cons (C' := [.string (⟨#[114, 49]⟩ : ByteArray), .string (⟨#[114, 50]⟩ : ByteArray), .string (⟨#[114, 51]⟩ : ByteArray), .string ⟨#[]⟩]) rfl rfl rfl rfl rfl (fill_cons (C' := [.string (⟨#[114, 49]⟩ : ByteArray), .string (⟨#[114, 50]⟩ : ByteArray), .string (⟨#[114, 51]⟩ : ByteArray), .string (⟨#[114, 52]⟩ : ByteArray)]) rfl rfl rfl rfl rfl (fill_nil)))))) rfl rc2 rfl (by simpa using Kw.nil)) rfl ?_
 rintro v3 Φ_3 D2 ⟨fr3, h3⟩
 replace h3 : OSl RS 9 1 Φ_3 [] v3 ([(⟨#[114, 49]⟩ : ByteArray), (⟨#[114, 50]⟩ : ByteArray), (⟨#[114, 51]⟩ : ByteArray), (⟨#[114, 52]⟩ : ByteArray)] : List ByteArray) := by simpa using h3
 replace h2 := fr3 _ _ (by simp) h2
 refine art 8 [] rfl <| wtS <| wt0 ?_
 have k1 := OSl.nil OTRule 28 5 Φ_3
 refine lin (σ := Hp × (List TRule) × Value × List Nat × Int × Int × Int) (fun s => [(0, pQ pb0), (2, pQ b_1), (3, pQ b_2), (4, v3), (5, iV s.2.2.2.2.1)]) (fun s => St w0 s.1 [(b_2, .cells #[.string x1.1, s.2.2.1] 38 (0, 0)), (b_1, .cells #[.string (⟨#[]⟩ : ByteArray), .slice none 0 0] 38 (0, 0))] [s.2.2.2.1, ob s.2.2.1, ob v3, [pb0]]) (fun m s => m_s_l10Draw_l1 N p0 x1 m s.2.1 s.2.2.2.2.1 s.2.2.2.2.2.1 s.2.2.2.2.2.2 = some r ∧ (OSl RS 9 1 s.1 [] v3 ([(⟨#[114, 49]⟩ : ByteArray), (⟨#[114, 50]⟩ : ByteArray), (⟨#[114, 51]⟩ : ByteArray), (⟨#[114, 52]⟩ : ByteArray)] : List ByteArray)) ∧ (OSl OTRule 28 5 s.1 s.2.2.2.1 s.2.2.1 s.2.1) ∧ (s.1 pb0 = some (.cells #[pv0_0, iV s.2.2.2.2.2.1, iV s.2.2.2.2.2.2] 107 (0, 0)))) (Φ_3, ([] : List TRule), (.slice none 0 0), [], 0, x1.2.i, x1.2.h) N ⟨h, h3, k1, h2⟩ (sx [0, 0, 0, 0] [0, 0]) (fun n1 ih1 s hm => ?_)
 obtain ⟨Φ_4, s1, u1, D3, s2, s3, s4⟩ := s
 obtain ⟨h, h3, k2, k3⟩ := hm
 dsimp only at h h3 k2 k3 ⊢
 unfold m_s_l10Draw_l1 at h
 refine atr 5 [] rfl <| kcb [3] h rfl rfl rfl rfl (fun b ap z q => m_s_l1Below_ok N b (⟨p0.b, s3, s4⟩ : Tl1Cur) 4 (ph0_0.y z) k3 q) ?_
 rintro x2 h v4 Φ_5 F2 ⟨ap2, fr4, rfl, rfl, e2, h4⟩
 replace h3 := h3.fr fr4 (ap2.q 2 rfl) dN
 replace k2 := k2.fr fr4 (ap2.q 1 rfl) (ap2.q 0 rfl)
 refine arr 3 [] rfl ?_
 obtain ⟨b3, hb_1, h⟩ := bs h
 refine WL.cutN 3 [(19, .bool b3), (0, pQ pb0), (2, pQ b_1), (3, pQ b_2), (4, v3), (5, iV s2)] ?_ (fun K => ?_)
 rotate_left
 ·refine sp 16 hb_1 rfl (fun hb_1 => ?_) fun hb_1 => ?_
  ·refine arr 3 [] rfl ?_
   cases hb_1
   exact ku K
  ·refine arr 3 [] rfl ?_
   cases hb_1
   exact ku K
 refine en ?_
 refine ch h rfl ?_ ?_ <;> intro h
 ·refine att 3 [] rfl <| WT.mix (Kn w0 Φ_5 (ob v3) [(b_2, .cells #[.string x1.1, u1] 38 (0, 0)), (b_1, .cells #[.string (⟨#[]⟩ : ByteArray), .slice none 0 0] 38 (0, 0))]) (fun i => match i with | 11 => false | _ => true) mixed (fun _ h => h.drew) <| mq 0 rfl (by kernel_rfl) (kn Kf.id (ai2 0 1 rfl rfl)) (q_fieldAddr Fld_38_1 rfl) rfl <| mq 1 rfl (by kernel_rfl) (kn Kf.id (ai2 0 1 rfl rfl)) (q_load1 T1_36 rfl (fun w1 hw => hw.rgO (i := 0) rfl 1 1 [u1] rfl)) rfl <| ma 2 rfl (by kernel_rfl) (kn Kf.id (ai2 0 1 rfl rfl)) rfl <| ma 3 rfl (by kernel_rfl) (kn Kf.id (ai2 0 1 rfl rfl)) rfl ?_
  refine ma 4 rfl (by kernel_rfl) (kn Kf.id (ai2 0 1 rfl rfl)) rfl ?_
  obtain ⟨x3, hx3, h⟩ := bs h
  obtain ⟨cs1, F3, -, g1, hb1, hs1, r1⟩ := h3.elS (idx_some hx3).2.2
  obtain ⟨rfl, -⟩ := r1
  refine mq 5 rfl (by kernel_rfl) (kn Kf.id (ai2 0 1 rfl rfl)) (q_indexAddr Sl_68 rfl rfl h3.rsl hx3) rfl <| mq 6 rfl (by kernel_rfl) (kn Kf.id (ai2 0 1 rfl rfl)) (q_load1 T1_9 rfl (fun w1 hw => hw.rg hb1 (g1.of_eq 0 1 rfl rfl : rg _ _ _ [.string x3]))) rfl ?_
  obtain ⟨x4, hx4, h⟩ := bs h
  refine WM.one 7 (by kernel_rfl) (mc rfl (fun _ v Φx D w1 hq hw => Kn.of (Kf.id.st hq.2.1 (hq.1.r (i := 2) rfl)) (ai2 0 1 rfl rfl) hw) (k_call (js := [0]) (R := [D3, ob u1, ob v3]) Fun_73 rfl rfl (fun w1 hw ap hl => m_s_l9Draw_ok N (bx hw ap hl) (⟨p0.b, x2.2.i, x2.2.h⟩ : Tl1Cur) x3 (ph0_0.y (hw.uo ap)) h4  hx4)) rfl ?_)
  rintro v5 Φ_6 F4 ⟨ap3, fr5, v6, D4, v7, v8, D5, rfl, rfl, h5, h6, h7, e3, h8⟩
  replace h3 := h3.fr fr5 (ap3.q 2 rfl) dN
  replace k2 := k2.fr fr5 (ap3.q 1 rfl) (ap3.q 0 rfl)
  have rc3 : RC OTRule 5 Φ_6 ([(ob v6 ++ D4) ++ ((ob v7 ++ []) ++ ((ob v8 ++ D5)))] : List (List Nat)) [.string x4.1.Name, iV x4.1.Sal, v6, v7, v8] ([x4.1] : List TRule) := RC.cons (c := [.string x4.1.Name, iV x4.1.Sal, v6, v7, v8]) (cells := []) ⟨v6, D4, v7, v8, D5, rfl, rfl, h5, h6, h7⟩ rfl (RC.nil _ _ _)
  have kf1 := (Kf.id (F := (ob v3)) : Kf Φ_5 _ _).st fr5 (ap3.q 2 rfl)
  refine WM.one 8 (by kernel_rfl) (me rfl (fun _ v Φx D w1 hq hw => Kn.of (kf1.se hq.1) (ai2 0 1 rfl rfl) hw) (e_lit (vs := [(0, .agg [.string x4.1.Name, iV x4.1.Sal, v6, v7, v8].toArray)]) (C := #[.string x4.1.Name, iV x4.1.Sal, v6, v7, v8]) OTRule.lasts Sl_36 Zr_28 rfl rfl rfl rfl (fill_made MC_28_1 (fill_cons (C' := [.string x4.1.Name, iV x4.1.Sal, v6, v7, v8]) rfl rfl rfl rfl rfl (fill_nil))) rfl rc3 rfl (RC.kn OTRule.knows rc3)) rfl ?_)
  rintro v9 Φ_7 D6 ⟨fr6, h9⟩
  replace h9 : OSl OTRule 28 5 Φ_7 ((ob v6 ++ D4) ++ ((ob v7 ++ []) ++ ((ob v8 ++ D5)))) v9 ([x4.1] : List TRule) := by simpa [List.append_assoc] using h9
  replace h3 := h3.f0 fr6
  replace k2 := k2.f0 fr6
  replace h8 := fr6 _ _ (by simp) h8
  refine WM.conv (S' := St w0 Φ_7 [(b_2, .cells #[.string x1.1, u1] 38 (0, 0)), (b_1, .cells #[.string (⟨#[]⟩ : ByteArray), .slice none 0 0] 38 (0, 0))] [((ob v6 ++ D4) ++ ((ob v7 ++ []) ++ ((ob v8 ++ D5)))), ob v9, [pb0], D3, ob u1, ob v3]) (fun w1 hw => hw.merge (js := [1, 1, 1, 1, 1]) rfl (SP.eq (by simp [List.append_assoc, ob_nil]))) ?_
  obtain ⟨x5, hx5, h⟩ := bs h
  have kf2 := kf1.se fr6
  refine WM.one 9 (by kernel_rfl) (me rfl (fun _ v Φx D w1 hq hw => Kn.of (kf2.st hq.1.2 (hq.1.1.r (i := 4) rfl)) (ai2 0 1 rfl rfl) hw) (e_appO OTRule.lasts OTRule.one Sl_36 Ei_28 rfl rfl rfl rfl rfl (js := [4]) (Rr := [((ob v6 ++ D4) ++ ((ob v7 ++ []) ++ ((ob v8 ++ D5)))), ob v9, [pb0], D3, ob v3]) rfl k2 h9 (fun ap => ap.q 3 rfl) (fun ap => ap.q 0 rfl) hx5) rfl ?_)
  rintro v10 Φ_8 D7 ⟨⟨ap4, fr7⟩, h10⟩
  replace h3 := h3.fr fr7 (ap4.q 4 rfl) dN
  replace h8 := fr7 _ _ ((ap4.q 2 rfl) _ (by simp)) h8
  refine WM.conv (S' := St w0 Φ_8 [(b_2, .cells #[.string x1.1, u1] 38 (0, 0)), (b_1, .cells #[.string (⟨#[]⟩ : ByteArray), .slice none 0 0] 38 (0, 0))] [(D3 ++ ((ob v6 ++ D4) ++ ((ob v7 ++ []) ++ ((ob v8 ++ D5))))), ob v10, ob v9, [pb0], ob v3]) (fun w1 hw => hw.merge (js := [4, 1]) rfl (SP.eq (by simp))) ?_
  have kf3 := kf2.st fr7 (ap4.q 4 rfl)
  refine mq 10 rfl (by kernel_rfl) (kn kf3 (ai2 0 1 rfl rfl)) (q_fieldAddr Fld_38_1 rfl) rfl ?_
  refine on1 11 (ms1 0 rfl nk Sz_36 rfl h10.one ?_)
  refine WM.nil (by kernel_rfl) <| att 6 [] rfl ?_
  exact lb [0, 0, 2, 1] [0, 0] (ih1 (_, _, _, _, _, _, _) ⟨h, h3, h10, h8⟩)
 refine atr 4 [2] rfl <| soN 1 Sz_38 rfl ⟨rfl, k2.one, trivial⟩ rfl ?_
 refine en ?_
 exact rtg [2, 1, 0] hF (resOk.one (rv_cell Tn_38 rfl (fun w1 hw => hw.rgO (i := 1) rfl 0 2 [.string x1.1, u1] rfl) rfl)) rfl (by cases h; exact fun w1 hw => ⟨u1, D3, rfl, rfl, k2, rfl, h4⟩)
theorem m_s_DrawParseDef_ok (w0 : Base Ψ Φ []) (p0 : (List Int)) (ph0 : RSl (RI .u8) 1 Ψ pG0 pv0 p0) {r : ByteArray} (h : m_s_DrawParseDef N p0 = some r) :
  CB w0 prog 22 [pv0] (.string r) := by
 refine eN func22 rfl ntmps22 rfl w0 fun hF => ?_
 unfold m_s_DrawParseDef at h
 refine atr 7 [] rfl <| kab h rfl rfl rfl (fun b z q => m_s_l1New_ok N b p0 (ph0.y z) q) ?_
 rintro x1 h v1 Φ_1 F1 ⟨ap1, fr1, b_1, v2, G1, rfl, rfl, h1, i1, h2⟩
 refine arr 5 [] rfl <| kcb [0] h rfl rfl rfl rfl (fun b ap z q => m_s_l10Draw_ok N b x1 (h1.x (Dj.sub (ap.o ph0.old) i1)) h2 q) ?_
 rintro x2 h v3 Φ_2 F2 ⟨ap2, fr2, v4, D1, rfl, rfl, h3, e1, h4⟩
 replace h1 := h1.fr fr2 (Dj.sub (ap2.o ph0.old) i1)
 refine qc h (m_s_DefText_ok N · x2.1 (h3.rslG OTRule.gives) ·) rfl rfl rfl fun x3 h => arr 6 [] rfl <| lq (q_lenS Str_9 rfl rfl) rfl <| la rfl <| en ?_
 refine ch h rfl ?_ ?_ <;> intro h
 ·refine att 5 [] rfl ?_
  exact rt hF h
 refine atr 5 [] rfl <| kcb [2] h rfl rfl rfl rfl (fun b ap z q => m_s_l1Below_ok N b (⟨x1.b, x2.2.i, x2.2.h⟩ : Tl1Cur) 6 (h1.x (Dj.sub (ap.o ph0.old) i1)) h4 q) ?_
 rintro x4 h v5 Φ_3 F3 ⟨ap3, fr3, rfl, rfl, e2, h5⟩
 replace h1 := h1.fr fr3 (Dj.sub (ap3.o ph0.old) i1)
 refine art 7 [] rfl ?_
 refine ch h rfl ?_ ?_ <;> intro h
 ·refine atr 4 [] rfl <| lq (q_lenS Str_9 rfl rfl) rfl <| kcb [0] h rfl rfl rfl rfl (fun b ap z q => m_s_l1Below_ok N b (⟨x1.b, x4.2.i, x4.2.h⟩ : Tl1Cur) (x3.size : Int) (h1.x (Dj.sub (ap.o ph0.old) i1)) h5 q) ?_
  rintro x5 h v6 Φ_4 F4 ⟨ap4, fr4, rfl, rfl, e3, h6⟩
  replace h1 := h1.fr fr4 (Dj.sub (ap4.o ph0.old) i1)
  refine art 3 [] rfl <| wm [] [] rfl <| amm 2 [0, 1] [] rfl rfl ?_
  obtain ⟨z1, hz1, h⟩ := bs h
  refine mq 2 rfl (by kernel_rfl) (kN []) (q_sstH Str_9 rfl rfl hz1) rfl <| amm 3 [3, 7, 8] [] rfl rfl ?_
  obtain ⟨z2, hz2, h⟩ := bs h
  refine mq 9 rfl (by kernel_rfl) (kN []) (q_sstL Str_9 rfl rfl hz2) rfl ?_
  have rc1 : RC RS 1 Φ_4 ([[], [], [], [], [], [], [], []] : List (List Nat)) [.string (⟨#[32]⟩ : ByteArray), .string (⟨#[40]⟩ : ByteArray), .string (⟨#[120]⟩ : ByteArray), .string (⟨#[44]⟩ : ByteArray), .string (⟨#[37, 32, 110, 111, 10]⟩ : ByteArray), .string (⟨#[45]⟩ : ByteArray), .string (⟨#[46]⟩ : ByteArray), .string (⟨#[33]⟩ : ByteArray)] ([(⟨#[32]⟩ : ByteArray), (⟨#[40]⟩ : ByteArray), (⟨#[120]⟩ : ByteArray), (⟨#[44]⟩ : ByteArray), (⟨#[37, 32, 110, 111, 10]⟩ : ByteArray), (⟨#[45]⟩ : ByteArray), (⟨#[46]⟩ : ByteArray), (⟨#[33]⟩ : ByteArray)] : List ByteArray) := RC.cons (c := [.string (⟨#[32]⟩ : ByteArray)]) (cells := [.string (⟨#[40]⟩ : ByteArray), .string (⟨#[120]⟩ : ByteArray), .string (⟨#[44]⟩ : ByteArray), .string (⟨#[37, 32, 110, 111, 10]⟩ : ByteArray), .string (⟨#[45]⟩ : ByteArray), .string (⟨#[46]⟩ : ByteArray), .string (⟨#[33]⟩ : ByteArray)]) ⟨rfl, rfl⟩ rfl (RC.cons (c := [.string (⟨#[40]⟩ : ByteArray)]) (cells := [.string (⟨#[120]⟩ : ByteArray), .string (⟨#[44]⟩ : ByteArray), .string (⟨#[37, 32, 110, 111, 10]⟩ : ByteArray), .string (⟨#[45]⟩ : ByteArray), .string (⟨#[46]⟩ : ByteArray), .string (⟨#[33]⟩ : ByteArray)]) ⟨rfl, rfl⟩ rfl (RC.cons (c := [.string (⟨#[120]⟩ : ByteArray)]) (cells := [.string (⟨#[44]⟩ : ByteArray), .string (⟨#[37, 32, 110, 111, 10]⟩ : ByteArray), .string (⟨#[45]⟩ : ByteArray), .string (⟨#[46]⟩ : ByteArray), .string (⟨#[33]⟩ : ByteArray)]) ⟨rfl, rfl⟩ rfl (RC.cons (c := [.string (⟨#[44]⟩ : ByteArray)]) (cells := [.string (⟨#[37, 32, 110, 111, 10]⟩ : ByteArray), .string (⟨#[45]⟩ : ByteArray), .string (⟨#[46]⟩ : ByteArray), .string (⟨#[33]⟩ : ByteArray)]) ⟨rfl, rfl⟩ rfl (RC.cons (c := [.string (⟨#[37, 32, 110, 111, 10]⟩ : ByteArray)]) (cells := [.string (⟨#[45]⟩ : ByteArray), .string (⟨#[46]⟩ : ByteArray), .string (⟨#[33]⟩ : ByteArray)]) ⟨rfl, rfl⟩ rfl (RC.cons (c := [.string (⟨#[45]⟩ : ByteArray)]) (cells := [.string (⟨#[46]⟩ : ByteArray), .string (⟨#[33]⟩ : ByteArray)]) ⟨rfl, rfl⟩ rfl (RC.cons (c := [.string (⟨#[46]⟩ : ByteArray)]) (cells := [.string (⟨#[33]⟩ : ByteArray)]) ⟨rfl, rfl⟩ rfl (RC.cons (c := [.string (⟨#[33]⟩ : ByteArray)]) (cells := []) ⟨rfl, rfl⟩ rfl (RC.nil _ _ _))))))))
  refine WM.one 4 (by kernel_rfl) (me rfl (fun _ v Φx D w1 hq hw => Kn.of Kf.nil aN hw) (e_lit (vs := [(0, .string (⟨#[32]⟩ : ByteArray)), (1, .string (⟨#[40]⟩ : ByteArray)), (2, .string (⟨#[120]⟩ : ByteArray)), (3, .string (⟨#[44]⟩ : ByteArray)), (4, .string (⟨#[37, 32, 110, 111, 10]⟩ : ByteArray)), (5, .string (⟨#[45]⟩ : ByteArray)), (6, .string (⟨#[46]⟩ : ByteArray)), (7, .string (⟨#[33]⟩ : ByteArray))]) (C := #[.string (⟨#[32]⟩ : ByteArray), .string (⟨#[40]⟩ : ByteArray), .string (⟨#[120]⟩ : ByteArray), .string (⟨#[44]⟩ : ByteArray), .string (⟨#[37, 32, 110, 111, 10]⟩ : ByteArray), .string (⟨#[45]⟩ : ByteArray), .string (⟨#[46]⟩ : ByteArray), .string (⟨#[33]⟩ : ByteArray)]) RS.lasts Sl_68 Zr_9 rfl rfl rfl rfl (fill_made MC_9_8 (fill_cons (C' := [.string (⟨#[32]⟩ : ByteArray), .string ⟨#[]⟩, .string ⟨#[]⟩, .string ⟨#[]⟩, .string ⟨#[]⟩, .string ⟨#[]⟩, .string ⟨#[]⟩, .string ⟨#[]⟩]) rfl rfl rfl rfl rfl (fill_cons (C' := [.string (⟨#[32]⟩ : ByteArray), .string (⟨#[40]⟩ : ByteArray), .string ⟨#[]⟩, .string ⟨#[]⟩, .string ⟨#[]⟩, .string ⟨#[]⟩, .string ⟨#[]⟩, .string ⟨#[]⟩]) rfl rfl rfl rfl rfl (fill_cons (C' := [.string (⟨#[32]⟩ : ByteArray), .string (⟨#[40]⟩ : ByteArray), .string (⟨#[120]⟩ : ByteArray), .string ⟨#[]⟩, .string ⟨#[]⟩, .string ⟨#[]⟩, .string ⟨#[]⟩, .string ⟨#[]⟩]) rfl rfl rfl rfl rfl (fill_cons (C' := [.string (⟨#[32]⟩ : ByteArray), .string (⟨#[40]⟩ : ByteArray), .string (⟨#[120]⟩ : ByteArray), .string (⟨#[44]⟩ : ByteArray), .string ⟨#[]⟩, .string ⟨#[]⟩, .string ⟨#[]⟩, .string ⟨#[]⟩]) rfl rfl rfl rfl rfl (fill_cons (C' := [.string (⟨#[32]⟩ : ByteArray), .string (⟨#[40]⟩ : ByteArray), .string (⟨#[120]⟩ : ByteArray), .string (⟨#[44]⟩ : ByteArray), .string (⟨#[37, 32, 110, 111, 10]⟩ : ByteArray), .string ⟨#[]⟩, .string ⟨#[]⟩, .string ⟨#[]⟩]) rfl rfl rfl rfl rfl (fill_cons (C' := [.string (⟨#[32]⟩ : ByteArray), .string (⟨#[40]⟩ : ByteArray), .string (⟨#[120]⟩ : ByteArray), .string (⟨#[44]⟩ : ByteArray), .string (⟨#[37, 32, 110, 111, 10]⟩ : ByteArray), .string (⟨#[45]⟩ : ByteArray), .string ⟨#[]⟩, .string ⟨#[]⟩]) rfl rfl rfl rfl rfl (fill_cons (C' := [.string (⟨#[32]⟩ : ByteArray), .string (⟨#[40]⟩ : ByteArray), .string (⟨#[120]⟩ : ByteArray), .string (⟨#[44]⟩ : ByteArray), .string (⟨#[37, 32, 110, 111, 10]⟩ : ByteArray), .string (⟨#[45]⟩ : ByteArray), .string (⟨#[46]⟩ : ByteArray), .string ⟨#[]⟩]) rfl rfl rfl rfl rfl (fill_cons (C' := [.string (⟨#[32]⟩ : ByteArray), .string (⟨#[40]⟩ : ByteArray), .string (⟨#[120]⟩ : ByteArray), .string (⟨#[44]⟩ : ByteArray), .string (⟨#[37, 32, 110, 111, 10]⟩ : ByteArray), .string (⟨#[45]⟩ : ByteArray), .string (⟨#[46]⟩ : ByteArray), .string (⟨#[33]⟩ : ByteArray)]) rfl rfl rfl rfl rfl (fill_nil)))))))))) rfl rc1 rfl (by simpa using Kw.nil)) rfl ?_)
  rintro v7 Φ_5 D2 ⟨fr5, h7⟩
  replace h7 : OSl RS 9 1 Φ_5 [] v7 ([(⟨#[32]⟩ : ByteArray), (⟨#[40]⟩ : ByteArray), (⟨#[120]⟩ : ByteArray), (⟨#[44]⟩ : ByteArray), (⟨#[37, 32, 110, 111, 10]⟩ : ByteArray), (⟨#[45]⟩ : ByteArray), (⟨#[46]⟩ : ByteArray), (⟨#[33]⟩ : ByteArray)] : List ByteArray) := by simpa using h7
  replace h1 := h1.f0 fr5
  replace h6 := fr5 _ _ (by simp) h6
  obtain ⟨x6, hx6, h⟩ := bs h
  refine WM.one 5 (by kernel_rfl) (mc rfl (fun _ v Φx D w1 hq hw => Kn.of Kf.nil aN hw) (k_call (js := [1]) (R := [ob v7, ob v4, D1]) Fun_64 rfl rfl (fun w1 hw ap hl => m_s_l1Str_ok N (bx hw ap hl) (⟨x1.b, x5.2.i, x5.2.h⟩ : Tl1Cur) ([(⟨#[32]⟩ : ByteArray), (⟨#[40]⟩ : ByteArray), (⟨#[120]⟩ : ByteArray), (⟨#[44]⟩ : ByteArray), (⟨#[37, 32, 110, 111, 10]⟩ : ByteArray), (⟨#[45]⟩ : ByteArray), (⟨#[46]⟩ : ByteArray), (⟨#[33]⟩ : ByteArray)] : List ByteArray) (h1.x (Dj.sub (ap.o ph0.old) i1)) h6 (h7.rsl.x (Dj.app (ap.q 0 rfl) dN))  hx6)) rfl ?_)
  rintro v8 Φ_6 F5 ⟨ap5, fr6, rfl, rfl, e4, h8⟩
  obtain ⟨z3, hz3, h⟩ := bs h
  refine mq 6 rfl (by kernel_rfl) (kN []) (q_cat rfl rfl hz3) rfl ?_
  obtain ⟨z4, hz4, h⟩ := bs h
  refine mq 10 rfl (by kernel_rfl) (kN []) (q_cat rfl rfl hz4) rfl <| amm 1 [11] [] rfl rfl <| WM.nil (by kernel_rfl) ?_
  exact rt hF h
 refine att 5 [] rfl ?_
 refine ch h rfl ?_ ?_ <;> intro h
 ·refine atr 5 [] rfl <| lq (q_lenS Str_9 rfl rfl) rfl <| la rfl <| kcb [0] h rfl rfl rfl rfl (fun b ap z q => m_s_l1Below_ok N b (⟨x1.b, x4.2.i, x4.2.h⟩ : Tl1Cur) (wz ((x3.size : Int) + 1)) (h1.x (Dj.sub (ap.o ph0.old) i1)) h5 q) ?_
  rintro x7 h v9 Φ_7 F6 ⟨ap6, fr7, rfl, rfl, e5, h9⟩
  obtain ⟨z5, hz5, h⟩ := bs h
  refine lq (q_sstH Str_9 rfl rfl hz5) rfl <| la rfl <| en ?_
  exact rt hF h
 refine att 5 [] rfl ?_
 refine ch h rfl ?_ ?_ <;> intro h
 ·refine sr <| la rfl ?_
  have rc2 : RC RS 1 Φ_3 ([[], [], [], [], [], [], []] : List (List Nat)) [.string (⟨#[]⟩ : ByteArray), .string (⟨#[100, 101, 102, 32, 120, 46]⟩ : ByteArray), .string (⟨#[100, 101, 102, 32, 120, 46, 32, 114, 117, 108, 101, 32, 114, 32, 48, 58, 32, 97, 40, 41, 32, 45, 62, 32, 100, 111, 110, 101, 46]⟩ : ByteArray), .string (⟨#[100, 101, 102, 32, 120, 46, 32, 114, 117, 108, 101, 32, 114, 32, 45, 48, 58, 32, 97, 40, 41, 32, 45, 62, 32, 100, 111, 110, 101, 46]⟩ : ByteArray), .string (⟨#[100, 101, 102, 32, 120, 46, 32, 114, 117, 108, 101, 32, 114, 32, 48, 58, 32, 33, 97, 40, 41, 32, 45, 62, 32, 100, 111, 110, 101, 46]⟩ : ByteArray), .string (⟨#[100, 101, 102, 32, 120, 46, 32, 114, 117, 108, 101, 32, 114, 32, 48, 58, 32, 97, 40, 88, 41, 32, 43, 32, 88, 32, 60, 32, 45, 53, 32, 45, 62, 32, 97, 115, 115, 101, 114, 116, 32, 98, 40, 88, 32, 45, 32, 45, 49, 41, 46]⟩ : ByteArray), .string (⟨#[100, 101, 102, 32, 120, 46, 32, 114, 117, 108, 101, 32, 114, 32, 48, 58, 32, 97, 40, 88, 41, 32, 45, 62, 32, 97, 115, 115, 101, 114, 116, 32, 98, 40, 89, 41, 46]⟩ : ByteArray)] ([(⟨#[]⟩ : ByteArray), (⟨#[100, 101, 102, 32, 120, 46]⟩ : ByteArray), (⟨#[100, 101, 102, 32, 120, 46, 32, 114, 117, 108, 101, 32, 114, 32, 48, 58, 32, 97, 40, 41, 32, 45, 62, 32, 100, 111, 110, 101, 46]⟩ : ByteArray), (⟨#[100, 101, 102, 32, 120, 46, 32, 114, 117, 108, 101, 32, 114, 32, 45, 48, 58, 32, 97, 40, 41, 32, 45, 62, 32, 100, 111, 110, 101, 46]⟩ : ByteArray), (⟨#[100, 101, 102, 32, 120, 46, 32, 114, 117, 108, 101, 32, 114, 32, 48, 58, 32, 33, 97, 40, 41, 32, 45, 62, 32, 100, 111, 110, 101, 46]⟩ : ByteArray), (⟨#[100, 101, 102, 32, 120, 46, 32, 114, 117, 108, 101, 32, 114, 32, 48, 58, 32, 97, 40, 88, 41, 32, 43, 32, 88, 32, 60, 32, 45, 53, 32, 45, 62, 32, 97, 115, 115, 101, 114, 116, 32, 98, 40, 88, 32, 45, 32, 45, 49, 41, 46]⟩ : ByteArray), (⟨#[100, 101, 102, 32, 120, 46, 32, 114, 117, 108, 101, 32, 114, 32, 48, 58, 32, 97, 40, 88, 41, 32, 45, 62, 32, 97, 115, 115, 101, 114, 116, 32, 98, 40, 89, 41, 46]⟩ : ByteArray)] : List ByteArray) := RC.cons (c := [.string (⟨#[]⟩ : ByteArray)]) (cells := [.string (⟨#[100, 101, 102, 32, 120, 46]⟩ : ByteArray), .string (⟨#[100, 101, 102, 32, 120, 46, 32, 114, 117, 108, 101, 32, 114, 32, 48, 58, 32, 97, 40, 41, 32, 45, 62, 32, 100, 111, 110, 101, 46]⟩ : ByteArray), .string (⟨#[100, 101, 102, 32, 120, 46, 32, 114, 117, 108, 101, 32, 114, 32, 45, 48, 58, 32, 97, 40, 41, 32, 45, 62, 32, 100, 111, 110, 101, 46]⟩ : ByteArray), .string (⟨#[100, 101, 102, 32, 120, 46, 32, 114, 117, 108, 101, 32, 114, 32, 48, 58, 32, 33, 97, 40, 41, 32, 45, 62, 32, 100, 111, 110, 101, 46]⟩ : ByteArray), .string (⟨#[100, 101, 102, 32, 120, 46, 32, 114, 117, 108, 101, 32, 114, 32, 48, 58, 32, 97, 40, 88, 41, 32, 43, 32, 88, 32, 60, 32, 45, 53, 32, 45, 62, 32, 97, 115, 115, 101, 114, 116, 32, 98, 40, 88, 32, 45, 32, 45, 49, 41, 46]⟩ : ByteArray), .string (⟨#[100, 101, 102, 32, 120, 46, 32, 114, 117, 108, 101, 32, 114, 32, 48, 58, 32, 97, 40, 88, 41, 32, 45, 62, 32, 97, 115, 115, 101, 114, 116, 32, 98, 40, 89, 41, 46]⟩ : ByteArray)]) ⟨rfl, rfl⟩ rfl (RC.cons (c := [.string (⟨#[100, 101, 102, 32, 120, 46]⟩ : ByteArray)]) (cells := [.string (⟨#[100, 101, 102, 32, 120, 46, 32, 114, 117, 108, 101, 32, 114, 32, 48, 58, 32, 97, 40, 41, 32, 45, 62, 32, 100, 111, 110, 101, 46]⟩ : ByteArray), .string (⟨#[100, 101, 102, 32, 120, 46, 32, 114, 117, 108, 101, 32, 114, 32, 45, 48, 58, 32, 97, 40, 41, 32, 45, 62, 32, 100, 111, 110, 101, 46]⟩ : ByteArray), .string (⟨#[100, 101, 102, 32, 120, 46, 32, 114, 117, 108, 101, 32, 114, 32, 48, 58, 32, 33, 97, 40, 41, 32, 45, 62, 32, 100, 111, 110, 101, 46]⟩ : ByteArray), .string (⟨#[100, 101, 102, 32, 120, 46, 32, 114, 117, 108, 101, 32, 114, 32, 48, 58, 32, 97, 40, 88, 41, 32, 43, 32, 88, 32, 60, 32, 45, 53, 32, 45, 62, 32, 97, 115, 115, 101, 114, 116, 32, 98, 40, 88, 32, 45, 32, 45, 49, 41, 46]⟩ : ByteArray), .string (⟨#[100, 101, 102, 32, 120, 46, 32, 114, 117, 108, 101, 32, 114, 32, 48, 58, 32, 97, 40, 88, 41, 32, 45, 62, 32, 97, 115, 115, 101, 114, 116, 32, 98, 40, 89, 41, 46]⟩ : ByteArray)]) ⟨rfl, rfl⟩ rfl (RC.cons (c := [.string (⟨#[100, 101, 102, 32, 120, 46, 32, 114, 117, 108, 101, 32, 114, 32, 48, 58, 32, 97, 40, 41, 32, 45, 62, 32, 100, 111, 110, 101, 46]⟩ : ByteArray)]) (cells := [.string (⟨#[100, 101, 102, 32, 120, 46, 32, 114, 117, 108, 101, 32, 114, 32, 45, 48, 58, 32, 97, 40, 41, 32, 45, 62, 32, 100, 111, 110, 101, 46]⟩ : ByteArray), .string (⟨#[100, 101, 102, 32, 120, 46, 32, 114, 117, 108, 101, 32, 114, 32, 48, 58, 32, 33, 97, 40, 41, 32, 45, 62, 32, 100, 111, 110, 101, 46]⟩ : ByteArray), .string (⟨#[100, 101, 102, 32, 120, 46, 32, 114, 117, 108, 101, 32, 114, 32, 48, 58, 32, 97, 40, 88, 41, 32, 43, 32, 88, 32, 60, 32, 45, 53, 32, 45, 62, 32, 97, 115, 115, 101, 114, 116, 32, 98, 40, 88, 32, 45, 32, 45, 49, 41, 46]⟩ : ByteArray), .string (⟨#[100, 101, 102, 32, 120, 46, 32, 114, 117, 108, 101, 32, 114, 32, 48, 58, 32, 97, 40, 88, 41, 32, 45, 62, 32, 97, 115, 115, 101, 114, 116, 32, 98, 40, 89, 41, 46]⟩ : ByteArray)]) ⟨rfl, rfl⟩ rfl (RC.cons (c := [.string (⟨#[100, 101, 102, 32, 120, 46, 32, 114, 117, 108, 101, 32, 114, 32, 45, 48, 58, 32, 97, 40, 41, 32, 45, 62, 32, 100, 111, 110, 101, 46]⟩ : ByteArray)]) (cells := [.string (⟨#[100, 101, 102, 32, 120, 46, 32, 114, 117, 108, 101, 32, 114, 32, 48, 58, 32, 33, 97, 40, 41, 32, 45, 62, 32, 100, 111, 110, 101, 46]⟩ : ByteArray), .string (⟨#[100, 101, 102, 32, 120, 46, 32, 114, 117, 108, 101, 32, 114, 32, 48, 58, 32, 97, 40, 88, 41, 32, 43, 32, 88, 32, 60, 32, 45, 53, 32, 45, 62, 32, 97, 115, 115, 101, 114, 116, 32, 98, 40, 88, 32, 45, 32, 45, 49, 41, 46]⟩ : ByteArray), .string (⟨#[100, 101, 102, 32, 120, 46, 32, 114, 117, 108, 101, 32, 114, 32, 48, 58, 32, 97, 40, 88, 41, 32, 45, 62, 32, 97, 115, 115, 101, 114, 116, 32, 98, 40, 89, 41, 46]⟩ : ByteArray)]) ⟨rfl, rfl⟩ rfl (RC.cons (c := [.string (⟨#[100, 101, 102, 32, 120, 46, 32, 114, 117, 108, 101, 32, 114, 32, 48, 58, 32, 33, 97, 40, 41, 32, 45, 62, 32, 100, 111, 110, 101, 46]⟩ : ByteArray)]) (cells := [.string (⟨#[100, 101, 102, 32, 120, 46, 32, 114, 117, 108, 101, 32, 114, 32, 48, 58, 32, 97, 40, 88, 41, 32, 43, 32, 88, 32, 60, 32, 45, 53, 32, 45, 62, 32, 97, 115, 115, 101, 114, 116, 32, 98, 40, 88, 32, 45, 32, 45, 49, 41, 46]⟩ : ByteArray), .string (⟨#[100, 101, 102, 32, 120, 46, 32, 114, 117, 108, 101, 32, 114, 32, 48, 58, 32, 97, 40, 88, 41, 32, 45, 62, 32, 97, 115, 115, 101, 114, 116, 32, 98, 40, 89, 41, 46]⟩ : ByteArray)]) ⟨rfl, rfl⟩ rfl (RC.cons (c := [.string (⟨#[100, 101, 102, 32, 120, 46, 32, 114, 117, 108, 101, 32, 114, 32, 48, 58, 32, 97, 40, 88, 41, 32, 43, 32, 88, 32, 60, 32, 45, 53, 32, 45, 62, 32, 97, 115, 115, 101, 114, 116, 32, 98, 40, 88, 32, 45, 32, 45, 49, 41, 46]⟩ : ByteArray)]) (cells := [.string (⟨#[100, 101, 102, 32, 120, 46, 32, 114, 117, 108, 101, 32, 114, 32, 48, 58, 32, 97, 40, 88, 41, 32, 45, 62, 32, 97, 115, 115, 101, 114, 116, 32, 98, 40, 89, 41, 46]⟩ : ByteArray)]) ⟨rfl, rfl⟩ rfl (RC.cons (c := [.string (⟨#[100, 101, 102, 32, 120, 46, 32, 114, 117, 108, 101, 32, 114, 32, 48, 58, 32, 97, 40, 88, 41, 32, 45, 62, 32, 97, 115, 115, 101, 114, 116, 32, 98, 40, 89, 41, 46]⟩ : ByteArray)]) (cells := []) ⟨rfl, rfl⟩ rfl (RC.nil _ _ _)))))))
  refine le' (e_lit (vs := [(0, .string (⟨#[]⟩ : ByteArray)), (1, .string (⟨#[100, 101, 102, 32, 120, 46]⟩ : ByteArray)), (2, .string (⟨#[100, 101, 102, 32, 120, 46, 32, 114, 117, 108, 101, 32, 114, 32, 48, 58, 32, 97, 40, 41, 32, 45, 62, 32, 100, 111, 110, 101, 46]⟩ : ByteArray)), (3, .string (⟨#[100, 101, 102, 32, 120, 46, 32, 114, 117, 108, 101, 32, 114, 32, 45, 48, 58, 32, 97, 40, 41, 32, 45, 62, 32, 100, 111, 110, 101, 46]⟩ : ByteArray)), (4, .string (⟨#[100, 101, 102, 32, 120, 46, 32, 114, 117, 108, 101, 32, 114, 32, 48, 58, 32, 33, 97, 40, 41, 32, 45, 62, 32, 100, 111, 110, 101, 46]⟩ : ByteArray)), (5, .string (⟨#[100, 101, 102, 32, 120, 46, 32, 114, 117, 108, 101, 32, 114, 32, 48, 58, 32, 97, 40, 88, 41, 32, 43, 32, 88, 32, 60, 32, 45, 53, 32, 45, 62, 32, 97, 115, 115, 101, 114, 116, 32, 98, 40, 88, 32, 45, 32, 45, 49, 41, 46]⟩ : ByteArray)), (6, .string (⟨#[100, 101, 102, 32, 120, 46, 32, 114, 117, 108, 101, 32, 114, 32, 48, 58, 32, 97, 40, 88, 41, 32, 45, 62, 32, 97, 115, 115, 101, 114, 116, 32, 98, 40, 89, 41, 46]⟩ : ByteArray))]) (C := #[.string (⟨#[]⟩ : ByteArray), .string (⟨#[100, 101, 102, 32, 120, 46]⟩ : ByteArray), .string (⟨#[100, 101, 102, 32, 120, 46, 32, 114, 117, 108, 101, 32, 114, 32, 48, 58, 32, 97, 40, 41, 32, 45, 62, 32, 100, 111, 110, 101, 46]⟩ : ByteArray), .string (⟨#[100, 101, 102, 32, 120, 46, 32, 114, 117, 108, 101, 32, 114, 32, 45, 48, 58, 32, 97, 40, 41, 32, 45, 62, 32, 100, 111, 110, 101, 46]⟩ : ByteArray), .string (⟨#[100, 101, 102, 32, 120, 46, 32, 114, 117, 108, 101, 32, 114, 32, 48, 58, 32, 33, 97, 40, 41, 32, 45, 62, 32, 100, 111, 110, 101, 46]⟩ : ByteArray), .string (⟨#[100, 101, 102, 32, 120, 46, 32, 114, 117, 108, 101, 32, 114, 32, 48, 58, 32, 97, 40, 88, 41, 32, 43, 32, 88, 32, 60, 32, 45, 53, 32, 45, 62, 32, 97, 115, 115, 101, 114, 116, 32, 98, 40, 88, 32, 45, 32, 45, 49, 41, 46]⟩ : ByteArray), .string (⟨#[100, 101, 102, 32, 120, 46, 32, 114, 117, 108, 101, 32, 114, 32, 48, 58, 32, 97, 40, 88, 41, 32, 45, 62, 32, 97, 115, 115, 101, 114, 116, 32, 98, 40, 89, 41, 46]⟩ : ByteArray)]) RS.lasts Sl_68 Zr_9 rfl rfl rfl rfl (fill_made MC_9_7 (fill_cons (C' := [.string (⟨#[]⟩ : ByteArray), .string ⟨#[]⟩, .string ⟨#[]⟩, .string ⟨#[]⟩, .string ⟨#[]⟩, .string ⟨#[]⟩, .string ⟨#[]⟩]) rfl rfl rfl rfl rfl (fill_cons (C' := [.string (⟨#[]⟩ : ByteArray), .string (⟨#[100, 101, 102, 32, 120, 46]⟩ : ByteArray), .string ⟨#[]⟩, .string ⟨#[]⟩, .string ⟨#[]⟩, .string ⟨#[]⟩, .string ⟨#[]⟩]) rfl rfl rfl rfl rfl (fill_cons (C' := [.string (⟨#[]⟩ : ByteArray), .string (⟨#[100, 101, 102, 32, 120, 46]⟩ : ByteArray), .string (⟨#[100, 101, 102, 32, 120, 46, 32, 114, 117, 108, 101, 32, 114, 32, 48, 58, 32, 97, 40, 41, 32, 45, 62, 32, 100, 111, 110, 101, 46]⟩ : ByteArray), .string ⟨#[]⟩, .string ⟨#[]⟩, .string ⟨#[]⟩, .string ⟨#[]⟩]) rfl rfl rfl rfl rfl (fill_cons (C' := [.string (⟨#[]⟩ : ByteArray), .string (⟨#[100, 101, 102, 32, 120, 46]⟩ : ByteArray), .string (⟨#[100, 101, 102, 32, 120, 46, 32, 114, 117, 108, 101, 32, 114, 32, 48, 58, 32, 97, 40, 41, 32, 45, 62, 32, 100, 111, 110, 101, 46]⟩ : ByteArray), .string (⟨#[100, 101, 102, 32, 120, 46, 32, 114, 117, 108, 101, 32, 114, 32, 45, 48, 58, 32, 97, 40, 41, 32, 45, 62, 32, 100, 111, 110, 101, 46]⟩ : ByteArray), .string ⟨#[]⟩, .string ⟨#[]⟩, .string ⟨#[]⟩]) rfl rfl rfl rfl rfl (fill_cons (C' := [.string (⟨#[]⟩ : ByteArray), .string (⟨#[100, 101, 102, 32, 120, 46]⟩ : ByteArray), .string (⟨#[100, 101, 102, 32, 120, 46, 32, 114, 117, 108, 101, 32, 114, 32, 48, 58, 32, 97, 40, 41, 32, 45, 62, 32, 100, 111, 110, 101, 46]⟩ : ByteArray), .string (⟨#[100, 101, 102, 32, 120, 46, 32, 114, 117, 108, 101, 32, 114, 32, 45, 48, 58, 32, 97, 40, 41, 32, 45, 62, 32, 100, 111, 110, 101, 46]⟩ : ByteArray), .string (⟨#[100, 101, 102, 32, 120, 46, 32, 114, 117, 108, 101, 32, 114, 32, 48, 58, 32, 33, 97, 40, 41, 32, 45, 62, 32, 100, 111, 110, 101, 46]⟩ : ByteArray), .string ⟨#[]⟩, .string ⟨#[]⟩]) rfl rfl rfl rfl rfl (fill_cons (C' := [.string (⟨#[]⟩ : ByteArray), .string (⟨#[100, 101, 102, 32, 120, 46]⟩ : ByteArray), .string (⟨#[100, 101, 102, 32, 120, 46, 32, 114, 117, 108, 101, 32, 114, 32, 48, 58, 32, 97, 40, 41, 32, 45, 62, 32, 100, 111, 110, 101, 46]⟩ : ByteArray), .string (⟨#[100, 101, 102, 32, 120, 46, 32, 114, 117, 108, 101, 32, 114, 32, 45, 48, 58, 32, 97, 40, 41, 32, 45, 62, 32, 100, 111, 110, 101, 46]⟩ : ByteArray), .string (⟨#[100, 101, 102, 32, 120, 46, 32, 114, 117, 108, 101, 32, 114, 32, 48, 58, 32, 33, 97, 40, 41, 32, 45, 62, 32, 100, 111, 110, 101, 46]⟩ : ByteArray), .string (⟨#[100, 101, 102, 32, 120, 46, 32, 114, 117, 108, 101, 32, 114, 32, 48, 58, 32, 97, 40, 88, 41, 32, 43, 32, 88, 32, 60, 32, 45, 53, 32, 45, 62, 32, 97, 115, 115, 101, 114, 116, 32, 98, 40, 88, 32, 45, 32, 45, 49, 41, 46]⟩ : ByteArray), .string ⟨#[]⟩]) rfl rfl rfl rfl rfl (fill_cons (C' := [.string (⟨#[]⟩ : ByteArray), .string (⟨#[100, 101, 102, 32, 120, 46]⟩ : ByteArray), .string (⟨#[100, 101, 102, 32, 120, 46, 32, 114, 117, 108, 101, 32, 114, 32, 48, 58, 32, 97, 40, 41, 32, 45, 62, 32, 100, 111, 110, 101, 46]⟩ : ByteArray), .string (⟨#[100, 101, 102, 32, 120, 46, 32, 114, 117, 108, 101, 32, 114, 32, 45, 48, 58, 32, 97, 40, 41, 32, 45, 62, 32, 100, 111, 110, 101, 46]⟩ : ByteArray), .string (⟨#[100, 101, 102, 32, 120, 46, 32, 114, 117, 108, 101, 32, 114, 32, 48, 58, 32, 33, 97, 40, 41, 32, 45, 62, 32, 100, 111, 110, 101, 46]⟩ : ByteArray), .string (⟨#[100, 101, 102, 32, 120, 46, 32, 114, 117, 108, 101, 32, 114, 32, 48, 58, 32, 97, 40, 88, 41, 32, 43, 32, 88, 32, 60, 32, 45, 53, 32, 45, 62, 32, 97, 115, 115, 101, 114, 116, 32, 98, 40, 88, 32, 45, 32, 45, 49, 41, 46]⟩ : ByteArray), .string (⟨#[100, 101, 102, 32, 120, 46, 32, 114, 117, 108, 101, 32, 114, 32, 48, 58, 32, 97, 40, 88, 41, 32, 45, 62, 32, 97, 115, 115, 101, 114, 116, 32, 98, 40, 89, 41, 46]⟩ : ByteArray)]) rfl rfl rfl rfl rfl (fill_nil))))))))) rfl rc2 rfl (by simpa using Kw.nil)) rfl ?_
  rintro v10 Φ_8 D3 ⟨fr8, h10⟩
  replace h10 : OSl RS 9 1 Φ_8 [] v10 ([(⟨#[]⟩ : ByteArray), (⟨#[100, 101, 102, 32, 120, 46]⟩ : ByteArray), (⟨#[100, 101, 102, 32, 120, 46, 32, 114, 117, 108, 101, 32, 114, 32, 48, 58, 32, 97, 40, 41, 32, 45, 62, 32, 100, 111, 110, 101, 46]⟩ : ByteArray), (⟨#[100, 101, 102, 32, 120, 46, 32, 114, 117, 108, 101, 32, 114, 32, 45, 48, 58, 32, 97, 40, 41, 32, 45, 62, 32, 100, 111, 110, 101, 46]⟩ : ByteArray), (⟨#[100, 101, 102, 32, 120, 46, 32, 114, 117, 108, 101, 32, 114, 32, 48, 58, 32, 33, 97, 40, 41, 32, 45, 62, 32, 100, 111, 110, 101, 46]⟩ : ByteArray), (⟨#[100, 101, 102, 32, 120, 46, 32, 114, 117, 108, 101, 32, 114, 32, 48, 58, 32, 97, 40, 88, 41, 32, 43, 32, 88, 32, 60, 32, 45, 53, 32, 45, 62, 32, 97, 115, 115, 101, 114, 116, 32, 98, 40, 88, 32, 45, 32, 45, 49, 41, 46]⟩ : ByteArray), (⟨#[100, 101, 102, 32, 120, 46, 32, 114, 117, 108, 101, 32, 114, 32, 48, 58, 32, 97, 40, 88, 41, 32, 45, 62, 32, 97, 115, 115, 101, 114, 116, 32, 98, 40, 89, 41, 46]⟩ : ByteArray)] : List ByteArray) := by simpa using h10
  replace h1 := h1.f0 fr8
  replace h5 := fr8 _ _ (by simp) h5
  refine kcb [1] h rfl rfl rfl rfl (fun b ap z q => m_s_l1Str_ok N b (⟨x1.b, x4.2.i, x4.2.h⟩ : Tl1Cur) ([(⟨#[]⟩ : ByteArray), (⟨#[100, 101, 102, 32, 120, 46]⟩ : ByteArray), (⟨#[100, 101, 102, 32, 120, 46, 32, 114, 117, 108, 101, 32, 114, 32, 48, 58, 32, 97, 40, 41, 32, 45, 62, 32, 100, 111, 110, 101, 46]⟩ : ByteArray), (⟨#[100, 101, 102, 32, 120, 46, 32, 114, 117, 108, 101, 32, 114, 32, 45, 48, 58, 32, 97, 40, 41, 32, 45, 62, 32, 100, 111, 110, 101, 46]⟩ : ByteArray), (⟨#[100, 101, 102, 32, 120, 46, 32, 114, 117, 108, 101, 32, 114, 32, 48, 58, 32, 33, 97, 40, 41, 32, 45, 62, 32, 100, 111, 110, 101, 46]⟩ : ByteArray), (⟨#[100, 101, 102, 32, 120, 46, 32, 114, 117, 108, 101, 32, 114, 32, 48, 58, 32, 97, 40, 88, 41, 32, 43, 32, 88, 32, 60, 32, 45, 53, 32, 45, 62, 32, 97, 115, 115, 101, 114, 116, 32, 98, 40, 88, 32, 45, 32, 45, 49, 41, 46]⟩ : ByteArray), (⟨#[100, 101, 102, 32, 120, 46, 32, 114, 117, 108, 101, 32, 114, 32, 48, 58, 32, 97, 40, 88, 41, 32, 45, 62, 32, 97, 115, 115, 101, 114, 116, 32, 98, 40, 89, 41, 46]⟩ : ByteArray)] : List ByteArray) (h1.x (Dj.sub (ap.o ph0.old) i1)) h5 (h10.rsl.x (Dj.app (ap.q 0 rfl) dN)) q) ?_
  rintro x8 h v11 Φ_9 F7 ⟨ap7, fr9, rfl, rfl, e6, h11⟩
  refine la rfl <| en ?_
  exact rt hF h
 refine att 7 [] rfl ?_
 exact rt hF h
theorem m_s_l5Pass_ok  (w0 : Base Ψ Φ []) (p0 : ByteArray) (p1 : Int)  {r : Int} (h : m_s_l5Pass N p0 p1 = some r) :
  CB w0 prog 121 [.string p0, iV p1] (iV r) := by
 refine eN func121 rfl ntmps121 rfl w0 fun hF => ?_
 unfold m_s_l5Pass at h
 refine att 6 [] rfl ?_
 refine lin (σ := Int) (fun s => [(0, .string p0), (1, iV s)]) (fun s => St w0 Φ [] []) (fun m s => m_s_l5Pass_l1 N p0 m s = some r) (p1) N h (sx [] []) (fun n1 ih1 s hm => ?_)
 revert hm; revert s; intro s1 hm
 have h : m_s_l5Pass_l1 N p0 (n1 + 1) s1 = some r := hm
 show WT _ _ [(0, .string p0), (1, iV s1)] (St w0 Φ [] [])
 unfold m_s_l5Pass_l1 at h
 refine atr 5 [] rfl <| lq (q_lenS Str_9 rfl rfl) rfl <| la rfl <| en ?_
 refine ch h rfl ?_ ?_ <;> intro h
 ·refine atr 7 [] rfl ?_
  obtain ⟨y1, hy1, h⟩ := bs h
  refine lq (q_indexS Str_9 rfl rfl hy1) rfl <| arr 2 [] rfl ?_
  obtain ⟨b1, hb_1, h⟩ := bs h
  refine WL.cutN 5 [(20, .bool b1), (0, .string p0), (1, iV s1)] ?_ (fun K => ?_)
  rotate_left
  ·refine sp 15 hb_1 rfl (fun hb_1 => ?_) fun hb_1 => ?_
   ·refine arr 5 [] rfl ?_
    cases hb_1
    exact ku K
   ·refine arr 2 [] rfl <| ly rfl rfl ?_
    obtain ⟨y2, hy2, hb_1⟩ := bs hb_1
    refine lq (q_indexS Str_9 rfl rfl hy2) rfl <| arr 2 [] rfl ?_
    cases hb_1
    exact ku K
  refine la rfl ?_
  obtain ⟨b2, hb_2, h⟩ := bs h
  refine WL.cutN 5 [(26, .bool b2), (0, .string p0), (1, iV s1)] ?_ (fun K => ?_)
  rotate_left
  ·refine sp 21 hb_2 rfl (fun hb_2 => ?_) fun hb_2 => ?_
   ·refine arr 5 [] rfl ?_
    cases hb_2
    exact ku K
   ·refine arr 2 [] rfl <| ly rfl rfl ?_
    obtain ⟨y3, hy3, hb_2⟩ := bs hb_2
    refine lq (q_indexS Str_9 rfl rfl hy3) rfl <| arr 2 [] rfl ?_
    cases hb_2
    exact ku K
  refine la rfl ?_
  obtain ⟨b3, hb_3, h⟩ := bs h
  refine WL.cutN 5 [(32, .bool b3), (0, .string p0), (1, iV s1)] ?_ (fun K => ?_)
  rotate_left
  ·refine sp 27 hb_3 rfl (fun hb_3 => ?_) fun hb_3 => ?_
   ·refine arr 5 [] rfl ?_
    cases hb_3
    exact ku K
   ·refine arr 2 [] rfl <| ly rfl rfl ?_
    obtain ⟨y4, hy4, hb_3⟩ := bs hb_3
    refine lq (q_indexS Str_9 rfl rfl hy4) rfl <| arr 2 [] rfl ?_
    cases hb_3
    exact ku K
  refine la rfl <| en ?_
  refine ch h rfl ?_ ?_ <;> intro h
  ·refine att 7 [] rfl ?_
   exact lb [] [] (ih1 _ h)
  refine atr 4 [] rfl ?_
  obtain ⟨y5, hy5, h⟩ := bs h
  refine lq (q_indexS Str_9 rfl rfl hy5) rfl <| art 3 [] rfl ?_
  refine ch h rfl ?_ ?_ <;> intro h
  ·refine blk ?_
   refine lin (σ := Int) (fun s => [(0, .string p0), (1, iV s)]) (fun s => St w0 Φ [] []) (fun m s => m_s_l5Pass_l2 N p0 (m_s_l5Pass_l1 N p0 n1) m s = some r) (s1) N h (sx [] []) (fun n2 ih2 s hm => ?_)
   revert hm; revert s; intro s2 hm
   have h : m_s_l5Pass_l2 N p0 (m_s_l5Pass_l1 N p0 n1) (n2 + 1) s2 = some r := hm
   show WT _ _ [(0, .string p0), (1, iV s2)] (St w0 Φ [] [])
   unfold m_s_l5Pass_l2 at h
   refine atr 5 [] rfl <| lq (q_lenS Str_9 rfl rfl) rfl <| arr 2 [] rfl ?_
   obtain ⟨b4, hb_4, h⟩ := bs h
   refine WL.cutN 5 [(49, .bool b4), (0, .string p0), (1, iV s2)] ?_ (fun K => ?_)
   rotate_left
   ·refine sp 44 hb_4 rfl (fun hb_4 => ?_) fun hb_4 => ?_
    ·refine arr 2 [] rfl <| ly rfl rfl ?_
     obtain ⟨y6, hy6, hb_4⟩ := bs hb_4
     refine lq (q_indexS Str_9 rfl rfl hy6) rfl <| arr 2 [] rfl ?_
     cases hb_4
     exact ku K
    ·refine arr 5 [] rfl ?_
     cases hb_4
     exact ku K
   refine en ?_
   refine ch h rfl ?_ ?_ <;> intro h
   ·refine att 8 [] rfl ?_
    exact lb [] [] (ih2 _ h)
   refine att 3 [] rfl ?_
   exact lb [] [] (ih1 _ h)
  refine att 5 [] rfl ?_
  exact rt hF h
 refine att 6 [] rfl ?_
 exact rt hF h
theorem m_s_l5Digits_ok  (w0 : Base Ψ Φ []) (p0 : ByteArray) (p1 : Int)  {r : Int} (h : m_s_l5Digits N p0 p1 = some r) :
  CB w0 prog 170 [.string p0, iV p1] (iV r) := by
 refine eN func170 rfl ntmps170 rfl w0 fun hF => ?_
 unfold m_s_l5Digits at h
 refine att 6 [] rfl ?_
 refine lin (σ := Int) (fun s => [(0, .string p0), (1, iV s)]) (fun s => St w0 Φ [] []) (fun m s => m_s_l5Digits_l1 N p0 m s = some r) (p1) N h (sx [] []) (fun n1 ih1 s hm => ?_)
 revert hm; revert s; intro s1 hm
 have h : m_s_l5Digits_l1 N p0 (n1 + 1) s1 = some r := hm
 show WT _ _ [(0, .string p0), (1, iV s1)] (St w0 Φ [] [])
 unfold m_s_l5Digits_l1 at h
 refine atr 5 [] rfl <| lq (q_lenS Str_9 rfl rfl) rfl <| arr 2 [] rfl ?_
 obtain ⟨b1, hb_1, h⟩ := bs h
 refine WL.cutN 6 [(15, .bool b1), (0, .string p0), (1, iV s1)] ?_ (fun K => ?_)
 rotate_left
 ·refine sp 9 hb_1 rfl (fun hb_1 => ?_) fun hb_1 => ?_
  ·refine arr 2 [] rfl <| ly rfl rfl ?_
   obtain ⟨y1, hy1, hb_1⟩ := bs hb_1
   refine lq (q_indexS Str_9 rfl rfl hy1) rfl <| ly rfl rfl <| lq (q_convI Ik_5 Ik_3 rfl) rfl <| ly rfl rfl <| qc hb_1 (m_s_l1In_ok N · (wz (y1.toNat : Int)) 48 57 ·) rfl rfl rfl fun x1 hb_1 => la rfl ?_
   cases hb_1
   exact ku K
  ·refine arr 6 [] rfl ?_
   cases hb_1
   exact ku K
 refine en ?_
 refine ch h rfl ?_ ?_ <;> intro h
 ·refine att 8 [] rfl ?_
  exact lb [] [] (ih1 _ h)
 refine att 6 [] rfl ?_
 exact rt hF h
theorem m_s_l2Whole_ok  (w0 : Base Ψ Φ []) (p0 : ByteArray)  {r : Int} (h : m_s_l2Whole N p0 = some r) :
  CB w0 prog 171 [.string p0] (iV r) := by
 refine eN func171 rfl ntmps171 rfl w0 fun hF => ?_
 unfold m_s_l2Whole at h
 refine atr 8 [] rfl <| lq (q_lenS Str_9 rfl rfl) rfl <| qc h (m_s_l1In_ok N · (p0.size : Int) 1 10 ·) rfl rfl rfl fun x1 h => arr 2 [] rfl ?_
 obtain ⟨b1, hb_1, h⟩ := bs h
 refine WL.cutN 9 [(18, .bool b1), (0, .string p0)] ?_ (fun K => ?_)
 rotate_left
 ·refine sp 9 hb_1 rfl (fun hb_1 => ?_) fun hb_1 => ?_
  ·refine arr 9 [] rfl ?_
   cases hb_1
   exact ku K
  ·refine ly rfl rfl <| la rfl <| ly rfl rfl <| lq (q_lenS Str_9 rfl rfl) rfl <| arr 2 [] rfl ?_
   obtain ⟨b2, hb_2, hb_1⟩ := bs hb_1
   refine WL.cutN 4 [(17, .bool b2), (0, .string p0), (9, .bool false)] ?_ (fun K => ?_)
   rotate_left
   ·refine sp 13 hb_2 rfl (fun hb_2 => ?_) fun hb_2 => ?_
    ·refine ly rfl rfl <| la rfl <| ly rfl rfl ?_
     obtain ⟨y1, hy1, hb_2⟩ := bs hb_2
     refine lq (q_indexS Str_9 rfl rfl hy1) rfl <| arr 2 [] rfl ?_
     cases hb_2
     exact ku K
    ·refine arr 4 [] rfl ?_
     cases hb_2
     exact ku K
   refine la rfl ?_
   cases hb_1
   exact ku K
 refine en ?_
 refine ch h rfl ?_ ?_ <;> intro h
 ·refine att 4 [] rfl ?_
  exact rt hF h
 refine att 11 [] rfl ?_
 refine lin (σ := Int × Int) (fun s => [(0, .string p0), (3, iV s.1), (4, iV s.2)]) (fun s => St w0 Φ [] []) (fun m s => m_s_l2Whole_l1 N p0 m s.1 s.2 = some r) (0, 0) N h (sx [] []) (fun n1 ih1 s hm => ?_)
 obtain ⟨s1, s2⟩ := s
 have h : m_s_l2Whole_l1 N p0 (n1 + 1) s1 s2 = some r := hm
 show WT _ _ [(0, .string p0), (3, iV s1), (4, iV s2)] (St w0 Φ [] [])
 unfold m_s_l2Whole_l1 at h
 refine atr 5 [] rfl <| lq (q_lenS Str_9 rfl rfl) rfl <| la rfl <| en ?_
 refine ch h rfl ?_ ?_ <;> intro h
 ·refine atr 8 [] rfl ?_
  obtain ⟨y2, hy2, h⟩ := bs h
  refine lq (q_indexS Str_9 rfl rfl hy2) rfl <| lq (q_convI Ik_5 Ik_3 rfl) rfl <| qc h (m_s_l1In_ok N · (wz (y2.toNat : Int)) 48 57 ·) rfl rfl rfl fun x2 h => la rfl <| en ?_
  refine ch h rfl ?_ ?_ <;> intro h
  ·refine att 4 [] rfl ?_
   exact rt hF h
  refine atr 6 [] rfl ?_
  obtain ⟨y3, hy3, h⟩ := bs h
  refine lq (q_indexS Str_9 rfl rfl hy3) rfl <| la rfl <| lq (q_convI Ik_5 Ik_3 rfl) rfl <| art 9 [] rfl ?_
  exact lb [] [] (ih1 (_, _) h)
 refine att 6 [] rfl ?_
 exact rt hF h
theorem m_s_l5Run_ok  (w0 : Base Ψ Φ []) (p0 : ByteArray) (p1 : Int) (p2 : Bool)  {r : Int} (h : m_s_l5Run N p0 p1 p2 = some r) :
  CB w0 prog 172 [.string p0, iV p1, .bool p2] (iV r) := by
 refine eN func172 rfl ntmps172 rfl w0 fun hF => ?_
 unfold m_s_l5Run at h
 refine att 6 [] rfl ?_
 refine lin (σ := Int) (fun s => [(0, .string p0), (1, iV s), (2, .bool p2)]) (fun s => St w0 Φ [] []) (fun m s => m_s_l5Run_l1 N p0 p2 m s = some r) (p1) N h (sx [] []) (fun n1 ih1 s hm => ?_)
 revert hm; revert s; intro s1 hm
 have h : m_s_l5Run_l1 N p0 p2 (n1 + 1) s1 = some r := hm
 show WT _ _ [(0, .string p0), (1, iV s1), (2, .bool p2)] (St w0 Φ [] [])
 unfold m_s_l5Run_l1 at h
 refine atr 5 [] rfl <| lq (q_lenS Str_9 rfl rfl) rfl <| arr 2 [] rfl ?_
 obtain ⟨b1, hb_1, h⟩ := bs h
 refine WL.cutN 14 [(25, .bool b1), (0, .string p0), (1, iV s1), (2, .bool p2)] ?_ (fun K => ?_)
 rotate_left
 ·refine sp 11 hb_1 rfl (fun hb_1 => ?_) fun hb_1 => ?_
  ·refine arr 2 [] rfl <| ly rfl rfl ?_
   obtain ⟨y1, hy1, hb_1⟩ := bs hb_1
   refine lq (q_indexS Str_9 rfl rfl hy1) rfl <| ly rfl rfl <| qc hb_1 (m_s_l1Letter_ok N · (y1.toNat : Int) ·) rfl rfl rfl fun x1 hb_1 => ly rfl rfl <| la rfl ?_
   obtain ⟨b2, hb_2, hb_1⟩ := bs hb_1
   refine WL.cutN 8 [(24, .bool b2), (0, .string p0), (1, iV s1), (2, .bool p2), (11, .bool true)] ?_ (fun K => ?_)
   rotate_left
   ·refine sp 16 hb_2 rfl (fun hb_2 => ?_) fun hb_2 => ?_
    ·refine arr 8 [] rfl ?_
     cases hb_2
     exact ku K
    ·refine arr 2 [] rfl ?_
     obtain ⟨b3, hb_3, hb_2⟩ := bs hb_2
     refine WL.cutN 5 [(23, .bool b3), (0, .string p0), (1, iV s1), (2, .bool p2), (11, .bool true), (16, .bool false)] ?_ (fun K => ?_)
     rotate_left
     ·refine sp 18 hb_3 rfl (fun hb_3 => ?_) fun hb_3 => ?_
      ·refine arr 2 [] rfl <| ly rfl rfl ?_
       obtain ⟨y2, hy2, hb_3⟩ := bs hb_3
       refine lq (q_indexS Str_9 rfl rfl hy2) rfl <| ly rfl rfl <| qc hb_3 (m_s_l5Large_ok N · (y2.toNat : Int) ·) rfl rfl rfl fun x2 hb_3 => ly rfl rfl <| la rfl ?_
       cases hb_3
       exact ku K
      ·refine arr 5 [] rfl ?_
       cases hb_3
       exact ku K
     refine ly rfl rfl <| la rfl ?_
     cases hb_2
     exact ku K
   refine la rfl ?_
   cases hb_1
   exact ku K
  ·refine arr 14 [] rfl ?_
   cases hb_1
   exact ku K
 refine en ?_
 refine ch h rfl ?_ ?_ <;> intro h
 ·refine att 8 [] rfl ?_
  exact lb [] [] (ih1 _ h)
 refine att 6 [] rfl ?_
 exact rt hF h
theorem m_s_l5Quote_ok  (w0 : Base Ψ Φ []) (p0 : ByteArray) (p1 : Int)  {r : Int} (h : m_s_l5Quote N p0 p1 = some r) :
  CB w0 prog 174 [.string p0, iV p1] (iV r) := by
 refine eN func174 rfl ntmps174 rfl w0 fun hF => ?_
 unfold m_s_l5Quote at h
 refine att 6 [] rfl ?_
 refine lin (σ := Int) (fun s => [(0, .string p0), (1, iV s)]) (fun s => St w0 Φ [] []) (fun m s => m_s_l5Quote_l1 N p0 m s = some r) (p1) N h (sx [] []) (fun n1 ih1 s hm => ?_)
 revert hm; revert s; intro s1 hm
 have h : m_s_l5Quote_l1 N p0 (n1 + 1) s1 = some r := hm
 show WT _ _ [(0, .string p0), (1, iV s1)] (St w0 Φ [] [])
 unfold m_s_l5Quote_l1 at h
 refine atr 5 [] rfl <| lq (q_lenS Str_9 rfl rfl) rfl <| arr 2 [] rfl ?_
 obtain ⟨b1, hb_1, h⟩ := bs h
 refine WL.cutN 5 [(14, .bool b1), (0, .string p0), (1, iV s1)] ?_ (fun K => ?_)
 rotate_left
 ·refine sp 9 hb_1 rfl (fun hb_1 => ?_) fun hb_1 => ?_
  ·refine arr 2 [] rfl <| ly rfl rfl ?_
   obtain ⟨y1, hy1, hb_1⟩ := bs hb_1
   refine lq (q_indexS Str_9 rfl rfl hy1) rfl <| arr 2 [] rfl ?_
   cases hb_1
   exact ku K
  ·refine arr 5 [] rfl ?_
   cases hb_1
   exact ku K
 refine en ?_
 refine ch h rfl ?_ ?_ <;> intro h
 ·refine att 8 [] rfl ?_
  exact lb [] [] (ih1 _ h)
 refine att 6 [] rfl ?_
 exact rt hF h
theorem m_s_l5MarkOk_ok  (w0 : Base Ψ Φ []) (p0 : ByteArray)  {r : Bool} (h : m_s_l5MarkOk N p0 = some r) :
  CB w0 prog 175 [.string p0] (.bool r) := by
 refine eN func175 rfl ntmps175 rfl w0 fun hF => ?_
 unfold m_s_l5MarkOk at h
 refine att 10 [] rfl ?_
 refine ch h rfl ?_ ?_ <;> intro h
 ·refine att 4 [] rfl ?_
  exact rt hF h
 refine att 7 [] rfl ?_
 refine lin (σ := Int) (fun s => [(0, .string p0), (3, iV s)]) (fun s => St w0 Φ [] []) (fun m s => m_s_l5MarkOk_l1 N p0 m s = some r) (0) N h (sx [] []) (fun n1 ih1 s hm => ?_)
 revert hm; revert s; intro s1 hm
 have h : m_s_l5MarkOk_l1 N p0 (n1 + 1) s1 = some r := hm
 show WT _ _ [(0, .string p0), (3, iV s1)] (St w0 Φ [] [])
 unfold m_s_l5MarkOk_l1 at h
 refine att 6 [] rfl ?_
 refine ch h rfl ?_ ?_ <;> intro h
 ·refine atr 9 [] rfl ?_
  obtain ⟨z1, hz1, h⟩ := bs h
  refine lq (q_sstLH Str_9 rfl rfl rfl hz1) rfl <| la rfl <| en ?_
  refine ch h rfl ?_ ?_ <;> intro h
  ·refine att 4 [] rfl ?_
   exact rt hF h
  refine att 7 [] rfl ?_
  exact lb [] [] (ih1 _ h)
 refine att 5 [] rfl ?_
 exact rt hF h
theorem m_s_l5One_ok  (w0 : Base Ψ Φ []) (p0 : ByteArray) (p1 : Int)  {r : TToken × Int} (h : m_s_l5One N p0 p1 = some r) :
  CB w0 prog 122 [.string p0, iV p1] (.tuple #[.agg [iV r.1.K, iV r.1.N, .string r.1.S].toArray, iV r.2]) := by
 refine eN func122 rfl ntmps122 rfl w0 fun hF => ?_
 unfold m_s_l5One at h
 refine sr <| lnz Zr_77 rfl fun b_1 => arr 6 [] rfl ?_
 obtain ⟨y1, hy1, h⟩ := bs h
 refine lq (q_indexS Str_9 rfl rfl hy1) rfl <| arr 7 [] rfl <| lq (q_convI Ik_5 Ik_3 rfl) rfl <| qc h (m_s_l1In_ok N · (wz (y1.toNat : Int)) 48 57 ·) rfl rfl rfl fun x1 h => la rfl <| en ?_
 refine ch h rfl ?_ ?_ <;> intro h
 ·refine atr 4 [] rfl <| qc h (m_s_l5Digits_ok N · p0 p1 ·) rfl rfl rfl fun x2 h => arr 7 [] rfl ?_
  obtain ⟨z1, hz1, h⟩ := bs h
  refine lq (q_sstLH Str_9 rfl rfl rfl hz1) rfl <| qc h (m_s_l2Whole_ok N · z1 ·) rfl rfl rfl fun x3 h => lq (q_build (vs := [(0, iV 1), (1, iV x3)]) (C := #[iV 1, iV x3, .string (⟨#[]⟩ : ByteArray)]) Pl_77 Zr_77 rfl (fill_cons (C' := [iV 1, iV 0, .string ⟨#[]⟩]) rfl rfl rfl rfl rfl (fill_cons (C' := [iV 1, iV x3, .string ⟨#[]⟩]) rfl rfl rfl rfl rfl (fill_nil)))) rfl <| la rfl <| soN 0 Sz_77 rfl ⟨rfl, rfl, rfl, trivial⟩ rfl ?_
  refine la rfl <| en ?_
  refine WT.ret hF (resOk.two (rv_cell Tn_77 rfl (fun w1 hw => hw.rgO (i := 0) rfl 0 3 [iV 1, iV x3, .string (⟨#[]⟩ : ByteArray)] rfl) rfl) rfl) (fun w1 hw => ?_)
  cases h
  exact post_of_St hw
 refine sr <| la rfl <| lq (q_convI Ik_5 Ik_3 rfl) rfl <| qc h (m_s_l1In_ok N · (wz (y1.toNat : Int)) 97 122 ·) rfl rfl rfl fun x4 h => la rfl <| en ?_
 refine ch h rfl ?_ ?_ <;> intro h
 ·refine atr 4 [] rfl <| qc h (m_s_l5Run_ok N · p0 p1 false ·) rfl rfl rfl fun x5 h => arr 7 [] rfl ?_
  obtain ⟨z2, hz2, h⟩ := bs h
  refine lq (q_sstLH Str_9 rfl rfl rfl hz2) rfl <| lq (q_build (vs := [(0, iV 2), (2, .string z2)]) (C := #[iV 2, iV 0, .string z2]) Pl_77 Zr_77 rfl (fill_cons (C' := [iV 2, iV 0, .string ⟨#[]⟩]) rfl rfl rfl rfl rfl (fill_cons (C' := [iV 2, iV 0, .string z2]) rfl rfl rfl rfl rfl (fill_nil)))) rfl <| la rfl <| soN 0 Sz_77 rfl ⟨rfl, rfl, rfl, trivial⟩ rfl ?_
  refine la rfl <| en ?_
  refine WT.ret hF (resOk.two (rv_cell Tn_77 rfl (fun w1 hw => hw.rgO (i := 0) rfl 0 3 [iV 2, iV 0, .string z2] rfl) rfl) rfl) (fun w1 hw => ?_)
  cases h
  exact post_of_St hw
 refine sr <| la rfl <| qc h (m_s_l5Large_ok N · (y1.toNat : Int) ·) rfl rfl rfl fun x6 h => la rfl <| en ?_
 refine ch h rfl ?_ ?_ <;> intro h
 ·refine atr 4 [] rfl <| qc h (m_s_l5Run_ok N · p0 p1 true ·) rfl rfl rfl fun x7 h => arr 7 [] rfl ?_
  obtain ⟨z3, hz3, h⟩ := bs h
  refine lq (q_sstLH Str_9 rfl rfl rfl hz3) rfl <| lq (q_build (vs := [(0, iV 3), (2, .string z3)]) (C := #[iV 3, iV 0, .string z3]) Pl_77 Zr_77 rfl (fill_cons (C' := [iV 3, iV 0, .string ⟨#[]⟩]) rfl rfl rfl rfl rfl (fill_cons (C' := [iV 3, iV 0, .string z3]) rfl rfl rfl rfl rfl (fill_nil)))) rfl <| la rfl <| soN 0 Sz_77 rfl ⟨rfl, rfl, rfl, trivial⟩ rfl ?_
  refine la rfl <| en ?_
  refine WT.ret hF (resOk.two (rv_cell Tn_77 rfl (fun w1 hw => hw.rgO (i := 0) rfl 0 3 [iV 3, iV 0, .string z3] rfl) rfl) rfl) (fun w1 hw => ?_)
  cases h
  exact post_of_St hw
 refine att 6 [] rfl ?_
 refine ch h rfl ?_ ?_ <;> intro h
 ·refine atr 5 [] rfl <| qc h (m_s_l5Quote_ok N · p0 (wz (p1 + 1)) ·) rfl rfl rfl fun x8 h => arr 7 [] rfl <| lq (q_lenS Str_9 rfl rfl) rfl <| la rfl <| en ?_
  refine ch h rfl ?_ ?_ <;> intro h
  ·refine sr <| lq (q_build (vs := []) (C := #[iV 0, iV 0, .string (⟨#[]⟩ : ByteArray)]) Pl_77 Zr_77 rfl (fill_nil)) rfl <| la rfl <| soN 0 Sz_77 rfl ⟨rfl, rfl, rfl, trivial⟩ rfl ?_
   refine la rfl <| en ?_
   refine WT.ret hF (resOk.two (rv_cell Tn_77 rfl (fun w1 hw => hw.rgO (i := 0) rfl 0 3 [iV 0, iV 0, .string (⟨#[]⟩ : ByteArray)] rfl) rfl) rfl) (fun w1 hw => ?_)
   cases h
   exact post_of_St hw
  refine atr 7 [] rfl ?_
  obtain ⟨z4, hz4, h⟩ := bs h
  refine lq (q_sstLH Str_9 rfl rfl rfl hz4) rfl <| lq (q_build (vs := [(0, iV 4), (2, .string z4)]) (C := #[iV 4, iV 0, .string z4]) Pl_77 Zr_77 rfl (fill_cons (C' := [iV 4, iV 0, .string ⟨#[]⟩]) rfl rfl rfl rfl rfl (fill_cons (C' := [iV 4, iV 0, .string z4]) rfl rfl rfl rfl rfl (fill_nil)))) rfl <| arr 2 [] rfl <| soN 0 Sz_77 rfl ⟨rfl, rfl, rfl, trivial⟩ rfl ?_
  refine la rfl <| en ?_
  refine WT.ret hF (resOk.two (rv_cell Tn_77 rfl (fun w1 hw => hw.rgO (i := 0) rfl 0 3 [iV 4, iV 0, .string z4] rfl) rfl) rfl) (fun w1 hw => ?_)
  cases h
  exact post_of_St hw
 refine atr 5 [] rfl <| lq (q_lenS Str_9 rfl rfl) rfl <| arr 2 [] rfl ?_
 obtain ⟨b1, hb_1, h⟩ := bs h
 refine WL.cutN 7 [(87, .bool b1), (0, .string p0), (1, iV p1), (4, pQ b_1)] ?_ (fun K => ?_)
 rotate_left
 ·refine sp 80 hb_1 rfl (fun hb_1 => ?_) fun hb_1 => ?_
  ·refine arr 4 [] rfl <| ly rfl rfl ?_
   obtain ⟨z5, hz5, hb_1⟩ := bs hb_1
   refine lq (q_sstLH Str_9 rfl rfl rfl hz5) rfl <| ly rfl rfl <| qc hb_1 (m_s_l5MarkOk_ok N · z5 ·) rfl rfl rfl fun x9 hb_1 => la rfl ?_
   cases hb_1
   exact ku K
  ·refine arr 7 [] rfl ?_
   cases hb_1
   exact ku K
 refine la rfl <| en ?_
 refine ch h rfl ?_ ?_ <;> intro h
 ·refine atr 6 [] rfl ?_
  obtain ⟨z6, hz6, h⟩ := bs h
  refine lq (q_sstLH Str_9 rfl rfl rfl hz6) rfl <| lq (q_build (vs := [(0, iV 5), (2, .string z6)]) (C := #[iV 5, iV 0, .string z6]) Pl_77 Zr_77 rfl (fill_cons (C' := [iV 5, iV 0, .string ⟨#[]⟩]) rfl rfl rfl rfl rfl (fill_cons (C' := [iV 5, iV 0, .string z6]) rfl rfl rfl rfl rfl (fill_nil)))) rfl <| arr 2 [] rfl <| soN 0 Sz_77 rfl ⟨rfl, rfl, rfl, trivial⟩ rfl ?_
  refine la rfl <| en ?_
  refine WT.ret hF (resOk.two (rv_cell Tn_77 rfl (fun w1 hw => hw.rgO (i := 0) rfl 0 3 [iV 5, iV 0, .string z6] rfl) rfl) rfl) (fun w1 hw => ?_)
  cases h
  exact post_of_St hw
 refine atr 8 [] rfl ?_
 obtain ⟨z7, hz7, h⟩ := bs h
 refine lq (q_sstLH Str_9 rfl rfl rfl hz7) rfl <| lq (q_build (vs := [(0, iV 5), (2, .string z7)]) (C := #[iV 5, iV 0, .string z7]) Pl_77 Zr_77 rfl (fill_cons (C' := [iV 5, iV 0, .string ⟨#[]⟩]) rfl rfl rfl rfl rfl (fill_cons (C' := [iV 5, iV 0, .string z7]) rfl rfl rfl rfl rfl (fill_nil)))) rfl <| arr 2 [] rfl <| soN 0 Sz_77 rfl ⟨rfl, rfl, rfl, trivial⟩ rfl ?_
 refine la rfl <| en ?_
 refine WT.ret hF (resOk.two (rv_cell Tn_77 rfl (fun w1 hw => hw.rgO (i := 0) rfl 0 3 [iV 5, iV 0, .string z7] rfl) rfl) rfl) (fun w1 hw => ?_)
 cases h
 exact post_of_St hw
end Go.Proofs.YteipbimepilcfaaGreatDoor
