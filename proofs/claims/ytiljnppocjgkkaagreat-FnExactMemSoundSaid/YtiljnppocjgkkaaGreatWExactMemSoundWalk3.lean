/- Printed by a program of ours: each Go function computes its Lean function. -/
import Derived.Test.YtiljnppocjgkkaaGreatProg
import Derived.Test.YtiljnppocjgkkaaGreatWExactMemSoundWalk2
namespace Go.Proofs.YtiljnppocjgkkaaGreat
open Eng Tryz
open Go.RowKit (Below)
set_option linter.unusedVariables false
set_option linter.unusedSimpArgs false

set_option maxRecDepth 100000
set_option maxHeartbeats 1000000
variable {Ψ Φ:Hp} {pv0_0 pv1_0 pv2 pv0_1 pv0_2 pv3_0 pv0 pv1_1 pv1_2 pv2_0 pv3 pv2_1 pv4_0 pv6_0 pv7:Value} {pG0_0 pG1_0 pG2 pG0_1 pG0_2 pD2 pG3_0 pD0 pG1_1 pG1_2 pG2_0 pG3 pG2_1 pD2_1 pG4_0 pG6_0 pG7 pD2_0:List Nat} {pb2:Nat} (N:Nat)
theorem rh (w0:af Ψ Φ []) (p0:ao) (p1:av) (p2:(List aB)) (ph0_0:RSl cu 5 Ψ pG0_0 pv0_0 p0.Args) (ph1_0:RSl aD 3 Ψ pG1_0 pv1_0 p1.Fields) (ph2:RSl aV 4 Ψ pG2 pv2 p2) {r:(List aB) × Bool} (h:iX N p0 p1 p2=some r) :
  Calls prog 221 [.agg [.string p0.Kind,pv0_0,.bool p0.Not].toArray,.agg [.string p1.Kind,pv1_0].toArray,pv2].toArray w0.w (aR Φ w0.w [] (fun Φ' Fs v=>∃ (sr_0_0:Value),v = .tuple #[sr_0_0,.bool r.2]∧Fs=[ob sr_0_0]∧OSl aV 289 4 Φ' [] sr_0_0 r.1)):=by
 refine eN func221 rfl ntmps221 rfl w0 fun hF=>?_
 unfold iX at h
 refine sr<|lbx rfl fun b_1=>lbx rfl fun b_2=>arr 5 [] rfl<|le' (kD aV.lasts lh qN rfl rfl) rfl ?_
 rintro v1 Φ_1 D1 ⟨fr1,h1⟩
 refine la rfl<|lu0 ph2 fun h2=>?_
 obtain ⟨x1,hx1,h⟩:=bs h
 refine le' (dE aV.lasts aV.one aV.flat lh wj rfl rfl rfl rfl rfl (js:=[0]) (Rr:=[]) rfl h1 h2 hx1) rfl ?_
 rintro v2 Φ_2 D2 ⟨⟨ap1,fr2⟩,h3⟩
 refine arr 11 [0,32,0,0] rfl ?_
 obtain ⟨b1,hb_1,h⟩:=bs h
 refine WL.cutN 8 [(29,.bool b1),(2,pv2),(3,pQ b_1),(4,pQ b_2),(8,v2)] ?_ (fun K=>?_)
 rotate_left
 ·refine sp 21 hb_1 rfl (fun hb_1=>?_) fun hb_1=>?_
  ·refine arr 8 [] rfl ?_
   cases hb_1
   exact ku K
  ·refine arr 2 [1,32] rfl<|ly rfl rfl<|lnr ph0_0 rfl<|arr 2 [1,0] rfl<|ly rfl rfl<|lnr ph1_0 rfl<|arr 2 [] rfl ?_
   cases hb_1
   exact ku K
 refine en ?_
 refine ch h rfl ?_ ?_ <;> intro h
 ·refine att 6 [] rfl ?_
  exact rtg [0] hF (aG.two rfl rfl) rfl (by cases h; exact fun w1 hw=>⟨v2,rfl,rfl,h3⟩)
 refine att 7 [] rfl ?_
 refine lin (σ:=Hp × (List aB) × Value × Int) (fun s=>[(2,pv2),(3,pQ b_1),(4,pQ b_2),(8,s.2.2.1),(9,iV s.2.2.2)]) (fun s=>St w0 s.1 [(b_2,.cells #[.string p1.Kind,pv1_0] 115 (0,0)),(b_1,.cells #[.string p0.Kind,pv0_0,.bool p0.Not] 124 (0,0))] [ob s.2.2.1]) (fun m s=>ev N p0 p1 p2 m s.2.1 s.2.2.2=some r∧(OSl aV 289 4 s.1 [] s.2.2.1 s.2.1)) (Φ_2,x1,v2,0) N ⟨h,h3⟩ (sx [0] [0,0]) (fun n1 ih1 s hm=>?_)
 obtain ⟨Φ_3,s1,u1,s2⟩:=s
 obtain ⟨h,k1⟩:=hm
 dsimp only at h k1 ⊢
 unfold ev at h
 refine atr 6 [1,32] rfl<|lnr ph0_0 rfl<|la rfl<|en ?_
 refine ch h rfl ?_ ?_ <;> intro h
 ·refine atr 8 [1,32] rfl ?_
  obtain ⟨x2,hx2,h⟩:=bs h
  obtain ⟨cs1,F1,-,g1,hb1,hs1,r1⟩:=ph0_0.el (a7 hx2).2.2
  obtain ⟨rfl,-⟩:=r1
  refine lia ph0_0 hx2 rfl<|lhx 0 5 g1 rfl<|lnz mH rfl fun b_3=>soN 0 oV rfl ⟨rfl,rfl,rfl,rfl,rfl,trivial⟩ rfl ?_
  refine arr 6 [1,0] rfl<|qc h (zn N · s1 x2.S k1.rsl ·) rfl rfl rfl fun x3 h=>arr 3 [] rfl<|lnz iw rfl fun b_4=>soN 0 oZ rfl ⟨rfl,rfl,rfl,trivial⟩ rfl ?_
  refine art 4 [] rfl<|WT.draw mixed (by kernel_rfl) (fun _ h=>h.drew)<|aqq 4 [0,32] rfl ?_
  obtain ⟨b2,hb_2,h⟩:=bs h
  refine WQ.cutN 9 [(62,.bool b2),(2,pv2),(3,pQ b_1),(4,pQ b_2),(8,u1),(9,iV s2),(10,pQ b_3),(11,pQ b_4),(12,.bool x3.2)] ?_ (fun K=>?_)
  rotate_left
  ·refine WQ.split (d:=53) rfl (fun c4=>?_) (fun c4=>?_)
   ·replace hb_2:=fk hb_2 c4
    refine aqq 5 [2,35,1,64] rfl<|WQ.yes rfl rfl ?_
    obtain ⟨x4,hx4,hb_2⟩:=bs hb_2
    obtain ⟨cs2,F2,-,g2,hb2,hs2,r2⟩:=ph1_0.el (a7 hx4).2.2
    obtain ⟨rfl,-⟩:=r2
    refine qq (a8 dA rfl rfl ph1_0 hx4) rfl<|WQ.yes rfl rfl<|qq (aq gF rfl (fun w1 hw=>(g2.of_eq 0 3 rfl rfl:rg _ _ _ [iV x4.K,iV x4.N,.string x4.S]).rangeAt hw.in0) rfl) rfl<|WQ.yes rfl rfl<|qq (uG kr rfl rfl rfl (r:=bb x2.V x4) rfl) rfl<|WQ.q (ph rfl rfl) rfl rfl rfl ?_
    cases hb_2
    exact kq K
   ·replace hb_2:=fg hb_2 c4
    refine aqq 9 [] rfl ?_
    cases hb_2
    exact kq K
  refine qq (fo rfl) rfl ?_
  obtain ⟨b3,hb_3,h⟩:=bs h
  refine WQ.cutN 16 [(79,.bool b3),(2,pv2),(3,pQ b_1),(4,pQ b_2),(8,u1),(9,iV s2),(10,pQ b_3),(12,.bool x3.2)] ?_ (fun K=>?_)
  rotate_left
  ·refine WQ.split (d:=63) rfl (fun c5=>?_) (fun c5=>?_)
   ·replace hb_3:=fk hb_3 c5
    refine aqq 16 [] rfl ?_
    cases hb_3
    exact kq K
   ·replace hb_3:=fg hb_3 c5
    refine aqq 4 [0,32] rfl ?_
    obtain ⟨b4,hb_4,hb_3⟩:=bs hb_3
    refine WQ.cutN 2 [(69,.bool b4),(2,pv2),(3,pQ b_1),(4,pQ b_2),(8,u1),(9,iV s2),(10,pQ b_3),(11,pQ b_4),(12,.bool x3.2),(63,.bool false)] ?_ (fun K=>?_)
    rotate_left
    ·refine WQ.split (d:=67) rfl (fun c6=>?_) (fun c6=>?_)
     ·replace hb_4:=fk hb_4 c6
      refine aqq 2 [] rfl ?_
      cases hb_4
      exact kq K
     ·replace hb_4:=fg hb_4 c6
      refine aqq 2 [] rfl ?_
      cases hb_4
      exact kq K
    refine WQ.yes rfl rfl<|qq (fo rfl) rfl ?_
    obtain ⟨b5,hb_5,hb_3⟩:=bs hb_3
    refine WQ.cutN 8 [(78,.bool b5),(2,pv2),(3,pQ b_1),(4,pQ b_2),(8,u1),(9,iV s2),(10,pQ b_3),(12,.bool x3.2),(63,.bool false)] ?_ (fun K=>?_)
    rotate_left
    ·refine WQ.split (d:=70) rfl (fun c7=>?_) (fun c7=>?_)
     ·replace hb_5:=fk hb_5 c7
      refine aqq 4 [3,1,64] rfl<|WQ.yes rfl rfl ?_
      obtain ⟨x5,hx5,hb_5⟩:=bs hb_5
      obtain ⟨cs3,F3,-,g3,hb3,hs3,r3⟩:=ph1_0.el (a7 hx5).2.2
      obtain ⟨rfl,-⟩:=r3
      refine qq (a8 dA rfl rfl ph1_0 hx5) rfl<|WQ.yes rfl rfl<|qq (aq gF rfl (fun w1 hw=>(g3.of_eq 0 3 rfl rfl:rg _ _ _ [iV x5.K,iV x5.N,.string x5.S]).rangeAt hw.in0) rfl) rfl<|WQ.yes rfl rfl<|qq (uG kr rfl rfl rfl (r:=bb x3.1 x5) rfl) rfl<|WQ.yes rfl rfl<|WQ.q (ph rfl rfl) rfl rfl rfl ?_
      cases hb_5
      exact kq K
     ·replace hb_5:=fg hb_5 c7
      refine aqq 8 [] rfl ?_
      cases hb_5
      exact kq K
    refine WQ.q (pw rfl rfl) rfl rfl rfl ?_
    cases hb_3
    exact kq K
  refine WQ.nil ?_
  refine ch h rfl ?_ ?_ <;> intro h
  ·refine sr<|le' (kD aV.lasts lh qN rfl rfl) rfl ?_
   rintro v3 Φ_4 D3 ⟨fr3,h4⟩
   refine la rfl<|lu0 ph2 fun h5=>?_
   obtain ⟨x6,hx6,h⟩:=bs h
   refine le' (dE aV.lasts aV.one aV.flat lh wj rfl rfl rfl rfl rfl (js:=[0]) (Rr:=[ob u1]) rfl h4 h5 hx6) rfl ?_
   rintro v4 Φ_5 D4 ⟨⟨ap2,fr4⟩,h6⟩
   refine art 3 [] rfl ?_
   exact rtg [0] hF (aG.two rfl rfl) rfl (by cases h; exact fun w1 hw=>⟨v4,rfl,rfl,h6⟩)
  refine atr 7 [0,32] rfl ?_
  obtain ⟨b6,hb_6,h⟩:=bs h
  refine WL.cutN 3 [(89,.bool b6),(2,pv2),(3,pQ b_1),(4,pQ b_2),(8,u1),(9,iV s2),(10,pQ b_3)] ?_ (fun K=>?_)
  rotate_left
  ·refine sp 86 hb_6 rfl (fun hb_6=>?_) fun hb_6=>?_
   ·refine arr 3 [] rfl ?_
    cases hb_6
    exact ku K
   ·refine arr 3 [] rfl ?_
    cases hb_6
    exact ku K
  refine en ?_
  refine ch h rfl ?_ ?_ <;> intro h
  ·refine wm [0,1,2,3] [] rfl<|amm 6 [0,1,1,2,32,3,1,4,64,5] [0,1,2,3] rfl rfl ?_
   obtain ⟨x7,hx7,h⟩:=bs h
   obtain ⟨cs4,F4,-,g4,hb4,hs4,r4⟩:=ph1_0.el (a7 hx7).2.2
   obtain ⟨rfl,-⟩:=r4
   refine mq 6 rfl (by kernel_rfl) (kN [0,1,2,3]) (a8 dA rfl rfl ph1_0 hx7) rfl<|mq 7 rfl (by kernel_rfl) (kN [0,1,2,3]) (aq gF rfl (fun w1 hw=>(g4.of_eq 0 3 rfl rfl:rg _ _ _ [iV x7.K,iV x7.N,.string x7.S]).rangeAt hw.1) rfl) rfl ?_
   refine mq 8 rfl (by kernel_rfl) (kN [0,1,2,3]) (cA (vs:=[(0,.string x2.S),(1,.agg [iV x7.K,iV x7.N,.string x7.S].toArray)]) (C:=#[.string x2.S,iV x7.K,iV x7.N,.string x7.S]) Gt qN rfl (ai (C':=[.string x2.S,iV 0,iV 0,.string ⟨#[]⟩]) rfl rfl rfl rfl rfl (ai (C':=[.string x2.S,iV x7.K,iV x7.N,.string x7.S]) rfl rfl rfl rfl rfl (au)))) rfl ?_
   have rc3:RC aV 4 Φ_3 ([[]]:List (List Nat)) [.string x2.S,iV x7.K,iV x7.N,.string x7.S] ([(⟨x2.S,x7⟩:aB)]:List aB):=RC.cons (c:=[.string x2.S,iV x7.K,iV x7.N,.string x7.S]) (cells:=[]) ⟨rfl,rfl⟩ rfl (RC.nil _ _ _)
   refine WM.one 9 (by kernel_rfl) (me rfl (fun _ v Φx D w1 hq hw=>Kn.of Kf.nil (am [0,1,2,3] rfl) hw) (cU (vs:=[(0,.agg [.string x2.S,iV x7.K,iV x7.N,.string x7.S].toArray)]) (C:=#[.string x2.S,iV x7.K,iV x7.N,.string x7.S]) aV.lasts lh qN rfl rfl rfl rfl (aK Ch (ai (C':=[.string x2.S,iV x7.K,iV x7.N,.string x7.S]) rfl rfl rfl rfl rfl (au))) rfl rc3 rfl (by simpa using Kw.nil)) rfl ?_)
   rintro v5 Φ_6 D5 ⟨fr5,h7⟩
   replace h7:OSl aV 289 4 Φ_6 [] v5 ([(⟨x2.S,x7⟩:aB)]:List aB):=by simpa using h7
   replace k1:=k1.f0 fr5
   obtain ⟨x8,hx8,h⟩:=bs h
   refine WM.one 10 (by kernel_rfl) (me rfl (fun _ v Φx D w1 hq hw=>Kn.of Kf.nil (am [0,1,2,3] rfl) hw) (dE aV.lasts aV.one aV.flat lh wj rfl rfl rfl rfl rfl (js:=[1]) (Rr:=[ob v5]) rfl k1 h7.rsl hx8) rfl ?_)
   rintro v6 Φ_7 D6 ⟨⟨ap3,fr6⟩,h8⟩
   refine amm 1 [11] [0,1,2,3] rfl rfl<|WM.nil (by kernel_rfl)<|att 6 [] rfl ?_
   exact lb [0] [2,2] (ih1 (_,_,_,_) ⟨h,h8⟩)
  refine att 7 [] rfl ?_
  exact lb [0] [2,2] (ih1 (_,_,_,_) ⟨h,k1⟩)
 refine att 7 [] rfl ?_
 exact rtg [0] hF (aG.two rfl rfl) rfl (by cases h; exact fun w1 hw=>⟨u1,rfl,rfl,k1⟩)
theorem mJ (w0:af Ψ Φ []) (p0:ac) (p1:ae) (p2:(List Int)) (ph0_0:RSl bt 3 Ψ pG0_0 pv0_0 p0.Pats) (ph0_1:RSl bl 11 Ψ pG0_1 pv0_1 p0.Conds) (ph0_2:RSl cX 5 Ψ pG0_2 pv0_2 p0.Acts) (ph1_0:RSl bn 3 Ψ pG1_0 pv1_0 p1.Items) (ph2:RSl (RI .i64) 1 Ψ pG2 pv2 p2) {r:(List aB) × Bool} (h:gL N p0 p1 p2=some r) :
  Calls prog 185 [.agg [.string p0.Name,iV p0.Sal,pv0_0,pv0_1,pv0_2].toArray,.agg [pv1_0,iV p1.Next].toArray,pv2].toArray w0.w (aR Φ w0.w [] (fun Φ' Fs v=>∃ (sr_0_0:Value),v = .tuple #[sr_0_0,.bool r.2]∧Fs=[ob sr_0_0]∧OSl aV 289 4 Φ' [] sr_0_0 r.1)):=by
 refine eN func185 rfl ntmps185 rfl w0 fun hF=>?_
 unfold gL at h
 refine sr<|lbx rfl fun b_1=>lbx rfl fun b_2=>arr 5 [] rfl<|le' (kD aV.lasts lh qN rfl rfl) rfl ?_
 rintro v1 Φ_1 D1 ⟨fr1,h1⟩
 refine art 8 [] rfl ?_
 refine lin (σ:=Hp × (List aB) × Value × Int) (fun s=>[(2,pv2),(3,pQ b_1),(4,pQ b_2),(8,s.2.2.1),(9,iV s.2.2.2)]) (fun s=>St w0 s.1 [(b_2,.cells #[pv1_0,iV p1.Next] 47 (0,0)),(b_1,.cells #[.string p0.Name,iV p0.Sal,pv0_0,pv0_1,pv0_2] 109 (0,0))] [ob s.2.2.1]) (fun m s=>dv N p0 p1 p2 m s.2.1 s.2.2.2=some r∧(OSl aV 289 4 s.1 [] s.2.2.1 s.2.1)) (Φ_1,([]:List aB),v1,0) N ⟨h,h1⟩ (sx [0] [0,0]) (fun n1 ih1 s hm=>?_)
 obtain ⟨Φ_2,s1,u1,s2⟩:=s
 obtain ⟨h,k1⟩:=hm
 dsimp only at h k1 ⊢
 unfold dv at h
 refine atr 5 [] rfl<|lnr ph2 rfl<|la rfl<|en ?_
 refine ch h rfl ?_ ?_ <;> intro h
 ·refine att 4 [] rfl ?_
  refine cut (σ:=Hp × Nat × (List aP) × Value × Bool × ByteArray) (fun s=>[(2,pv2),(3,pQ b_1),(4,pQ b_2),(8,u1),(9,iV s2),(10,.pointer (some ⟨s.2.1,0,none⟩)),(11,.bool s.2.2.2.2.1)]) (fun s=>St w0 s.1 [(s.2.1,.cells #[.string s.2.2.2.2.2,s.2.2.2.1] 115 (0,0)),(b_2,.cells #[pv1_0,iV p1.Next] 47 (0,0)),(b_1,.cells #[.string p0.Name,iV p0.Sal,pv0_0,pv0_1,pv0_2] 109 (0,0))] [ob s.2.2.2.1,ob u1]) (fun s=>jt N p0 s1 s2 (dv N p0 p1 p2 n1) s.2.2.1 s.2.2.2.2.1 s.2.2.2.2.2=some r∧(OSl aV 289 4 s.1 [] u1 s1)∧(OSl aD 167 3 s.1 [] s.2.2.2.1 s.2.2.1)) (fun s hm=>?_) (fun K=>?_)
  ·clear h
   obtain ⟨Φ_4,b_4,s3,u2,s4,s5⟩:=s
   obtain ⟨h,k1,k2⟩:=hm
   dsimp only at h k1 k2 ⊢
   unfold jt at h
   refine sq<|wm [0,1,2] [] rfl<|amm 3 [0,2,1,64,2] [0,1,2] rfl rfl ?_
   obtain ⟨x3,hx3,h⟩:=bs h
   obtain ⟨cs2,F3,-,g2,hb2,hs2,r2⟩:=ph0_0.el (a7 hx3).2.2
   obtain ⟨v4,G1,rfl,hq1,h3⟩:=r2
   obtain rfl:=hq1.symm
   refine mq 3 rfl (by kernel_rfl) (kN [0,1,2]) (a8 qP rfl rfl ph0_0 hx3) rfl<|mq 4 rfl (by kernel_rfl) (kN [0,1,2]) (aq sY rfl (fun w1 hw=>(g2.of_eq 0 3 rfl rfl:rg _ _ _ [.string x3.Kind,v4,.bool x3.Not]).rangeAt hw.1) rfl) rfl<|amm 2 [5,2,6] [0,1,2] rfl rfl ?_
   obtain ⟨x4,hx4,h⟩:=bs h
   refine WM.one 7 (by kernel_rfl) (mc rfl (fun _ v Φx D w1 hq hw=>Kn.of Kf.nil (ai3 0 1 2 rfl rfl rfl) hw) (cW (js:=[]) (R:=[ob u2,ob u1]) DU rfl rfl (fun w1 hw ap hl=>rh N (ba hw.fro) x3 (⟨s5,s3⟩:av) s1 (h3.y hw.up) k2.rsl k1.rsl  hx4)) rfl ?_)
   rintro v5 Φ_5 F4 ⟨ap2,fr3,v6,rfl,rfl,h4⟩
   replace k1:=k1.fr fr3 (ap2.q 1 rfl) dN
   refine amm 5 [8,9,10,11,12] [0,1,2] rfl rfl<|WM.nil (by kernel_rfl)<|atr 6 [] rfl ?_
   obtain ⟨b1,hb_1,h⟩:=bs h
   refine WL.cutN 3 [(46,.bool b1),(2,pv2),(3,pQ b_1),(4,pQ b_2),(8,u1),(9,iV s2),(12,v6)] ?_ (fun K=>?_)
   rotate_left
   ·refine sp 43 hb_1 rfl (fun hb_1=>?_) fun hb_1=>?_
    ·refine arr 3 [] rfl ?_
     cases hb_1
     exact ku K
    ·refine arr 3 [] rfl ?_
     cases hb_1
     exact ku K
   refine en ?_
   refine ch h rfl ?_ ?_ <;> intro h
   ·refine att 6 [] rfl ?_
    exact rtg [2] hF (aG.two rfl rfl) rfl (by cases h; exact fun w1 hw=>⟨u1,rfl,rfl,k1⟩)
   refine att 11 [] rfl ?_
   exact lb [0] [1,1] (ih1 (_,_,_,_) ⟨h,h4⟩)
  refine wm [0,1] [] rfl<|amm 3 [0,2,1,2] [0,1] rfl rfl ?_
  obtain ⟨x5,hx5,h⟩:=bs h
  obtain ⟨cs3,F5,-,g3,hb3,hs3,r3⟩:=ph2.el (a7 hx5).2.2
  obtain ⟨rfl,-⟩:=r3
  refine mq 3 rfl (by kernel_rfl) (kN [0,1]) (a8 bD rfl rfl ph2 hx5) rfl<|mq 4 rfl (by kernel_rfl) (kN [0,1]) (aM rU rfl (fun w1 hw=>(g3.of_eq 0 1 rfl rfl:rg _ _ _ [iV x5]).rangeAt hw.1)) rfl ?_
  refine WM.two 5 9 (by kernel_rfl) ?_ ?_
  ·obtain ⟨x6,hx6,h⟩:=bs h
   refine mc rfl (fun _ v Φx D w1 hq hw=>Kn.of Kf.nil (ai2 0 1 rfl rfl) hw) (cW (js:=[]) (R:=[ob u1]) Gy rfl rfl (fun w1 hw ap hl=>pR N (ba hw.fro) p1 x5 (ph1_0.y hw.up)  hx6)) rfl ?_
   rintro v7 Φ_6 F6 ⟨ap3,fr4,v8,rfl,rfl,h5⟩
   replace k1:=k1.fr fr4 (ap3.q 0 rfl) dN
   refine amm 3 [6,7,8] [0,1] rfl rfl ?_
   refine on1 9 (mn rfl (kB [1,2]) (nz jD) rfl (fun b_5=>?_))
   refine on1 10 (msK 0 [1,2] rfl ky rfl ⟨rfl,h5.one,trivial⟩ rfl rfl ?_)
   refine amm 1 [11] [1,2] rfl rfl<|WM.nil (by kernel_rfl) ?_
   exact wo [0,0] [0,0,0] (K (_,_,_,_,_,_) ⟨h,k1,h5⟩)
  refine mn rfl (fun _ b w1 hw=>Kn.of Kf.nil (ai2 1 2 rfl rfl) hw) (nz jD) rfl (fun b_6=>?_)
  obtain ⟨x7,hx7,h⟩:=bs h
  refine WM.one 5 (by kernel_rfl) (mc rfl (fun _ v Φx D w1 hq hw=>Kn.of Kf.nil (ai2 1 2 rfl rfl) hw) (cW (js:=[]) (R:=[ob u1]) Gy rfl rfl (fun w1 hw ap hl=>pR N (ba hw.fro) p1 x5 (ph1_0.y hw.up)  hx7)) rfl ?_)
  rintro v9 Φ_7 F7 ⟨ap4,fr5,v10,rfl,rfl,h6⟩
  replace k1:=k1.fr fr5 (ap4.q 0 rfl) dN
  refine amm 3 [6,7,8] [1,2] rfl rfl ?_
  refine on1 10 (msK 0 [1,2] rfl ky rfl ⟨rfl,h6.one,trivial⟩ rfl rfl ?_)
  refine amm 1 [11] [1,2] rfl rfl<|WM.nil (by kernel_rfl) ?_
  exact wo [0,0] [0,0,0] (K (_,_,_,_,_,_) ⟨h,k1,h6⟩)
 refine att 7 [] rfl ?_
 exact rtg [0] hF (aG.two rfl rfl) rfl (by cases h; exact fun w1 hw=>⟨u1,rfl,rfl,k1⟩)
theorem sB (w0:af Ψ Φ []) (p0:ac) (p1:av) (p2:(List aB)) (ph0_0:RSl bt 3 Ψ pG0_0 pv0_0 p0.Pats) (ph0_1:RSl bl 11 Ψ pG0_1 pv0_1 p0.Conds) (ph0_2:RSl cX 5 Ψ pG0_2 pv0_2 p0.Acts) (ph1_0:RSl aD 3 Ψ pG1_0 pv1_0 p1.Fields) (ph2:RSl aV 4 Ψ pG2 pv2 p2) {r:(List Int)} (h:li N p0 p1 p2=some r) :
  Calls prog 186 [.agg [.string p0.Name,iV p0.Sal,pv0_0,pv0_1,pv0_2].toArray,.agg [.string p1.Kind,pv1_0].toArray,pv2].toArray w0.w (aR Φ w0.w [] (fun Φ' Fs v=>∃ (sr_0_0:Value),v=sr_0_0∧Fs=[ob sr_0_0]∧OSl (RI .i64) 3 1 Φ' [] sr_0_0 r)):=by
 refine eN func186 rfl ntmps186 rfl w0 fun hF=>?_
 unfold li at h
 refine sr<|lbx rfl fun b_1=>lbx rfl fun b_2=>arr 4 [] rfl<|le' (kD (R:=RI .i64) RI.lasts bD pb rfl rfl) rfl ?_
 rintro v1 Φ_1 D1 ⟨fr1,h1⟩
 refine art 8 [] rfl ?_
 refine lin (σ:=Hp × (List Int) × Value × Int) (fun s=>[(2,pv2),(3,pQ b_1),(4,pQ b_2),(7,s.2.2.1),(8,iV s.2.2.2)]) (fun s=>St w0 s.1 [(b_2,.cells #[.string p1.Kind,pv1_0] 115 (0,0)),(b_1,.cells #[.string p0.Name,iV p0.Sal,pv0_0,pv0_1,pv0_2] 109 (0,0))] [ob s.2.2.1]) (fun m s=>cH N p0 p1 p2 m s.2.1 s.2.2.2=some r∧(OSl (RI .i64) 3 1 s.1 [] s.2.2.1 s.2.1)) (Φ_1,([]:List Int),v1,0) N ⟨h,h1⟩ (sx [0] [0,0]) (fun n1 ih1 s hm=>?_)
 obtain ⟨Φ_2,s1,u1,s2⟩:=s
 obtain ⟨h,k1⟩:=hm
 dsimp only at h k1 ⊢
 unfold cH at h
 refine atr 6 [2,32] rfl<|lnr ph0_0 rfl<|la rfl<|en ?_
 refine ch h rfl ?_ ?_ <;> intro h
 ·refine atr 8 [2,32] rfl ?_
  obtain ⟨x1,hx1,h⟩:=bs h
  obtain ⟨cs1,F1,-,g1,hb1,hs1,r1⟩:=ph0_0.el (a7 hx1).2.2
  obtain ⟨v2,G1,rfl,hq1,h2⟩:=r1
  obtain rfl:=hq1.symm
  refine lia ph0_0 hx1 rfl<|lf kY rfl rfl rfl<|lhx 2 0 g1 rfl<|en ?_
  refine ch h rfl ?_ ?_ <;> intro h
  ·refine sq<|wm [0,1] [] rfl<|amm 3 [0,2,1,32,2] [0,1] rfl rfl ?_
   obtain ⟨x2,hx2,h⟩:=bs h
   obtain ⟨cs2,F2,-,g2,hb2,hs2,r2⟩:=ph0_0.el (a7 hx2).2.2
   obtain ⟨v3,G2,rfl,hq2,h3⟩:=r2
   obtain rfl:=hq2.symm
   refine mq 3 rfl (by kernel_rfl) (kN [0,1]) (a8 qP rfl rfl ph0_0 hx2) rfl<|mq 4 rfl (by kernel_rfl) (kN [0,1]) (aq sY rfl (fun w1 hw=>(g2.of_eq 0 3 rfl rfl:rg _ _ _ [.string x2.Kind,v3,.bool x2.Not]).rangeAt hw.1) rfl) rfl<|amm 2 [5,2,6] [0,1] rfl rfl ?_
   obtain ⟨x3,hx3,h⟩:=bs h
   refine WM.one 7 (by kernel_rfl) (mc rfl (fun _ v Φx D w1 hq hw=>Kn.of Kf.nil (ai2 0 1 rfl rfl) hw) (cW (js:=[]) (R:=[ob u1]) DU rfl rfl (fun w1 hw ap hl=>rh N (ba hw.fro) x2 p1 p2 (h3.y hw.up) (ph1_0.y hw.up) (ph2.y hw.up)  hx3)) rfl ?_)
   rintro v4 Φ_3 F3 ⟨ap1,fr2,v5,rfl,rfl,h4⟩
   replace k1:=k1.fr fr2 (ap1.q 0 rfl) dN
   refine amm 5 [8,9,10,11,12] [0,1] rfl rfl<|WM.nil (by kernel_rfl)<|att 9 [] rfl ?_
   refine cut (σ:=Int) (fun s=>[(2,pv2),(3,pQ b_1),(4,pQ b_2),(7,u1),(8,iV s2),(11,iV s)]) (fun s=>St w0 Φ_3 [(b_2,.cells #[.string p1.Kind,pv1_0] 115 (0,0)),(b_1,.cells #[.string p0.Name,iV p0.Sal,pv0_0,pv0_1,pv0_2] 109 (0,0))] [ob u1]) (fun s=>fK N s1 s2 (cH N p0 p1 p2 n1) s=some r) (fun s hm=>?_) (fun K=>?_)
   ·clear h
    revert hm; revert s; intro s3 hm
    have h:fK N s1 s2 (cH N p0 p1 p2 n1) s3=some r:=hm
    show WT _ _ [(2,pv2),(3,pQ b_1),(4,pQ b_2),(7,u1),(8,iV s2),(11,iV s3)] (St w0 Φ_3 [(b_2,.cells #[.string p1.Kind,pv1_0] 115 (0,0)),(b_1,.cells #[.string p0.Name,iV p0.Sal,pv0_0,pv0_1,pv0_2] 109 (0,0))] [ob u1])
    unfold fK at h
    refine atr 3 [] rfl ?_
    have rc2:RC (RI .i64) 1 Φ_3 ([[]]:List (List Nat)) [iV s3] ([s3]:List Int):=RC.cons (c:=[iV s3]) (cells:=[]) ⟨rfl,rfl⟩ rfl (RC.nil _ _ _)
    refine le' (cU (vs:=[(0,iV s3)]) (C:=#[iV s3]) RI.lasts bD pb rfl rfl rfl rfl (aK kv (ai (C':=[iV s3]) rfl rfl rfl rfl rfl (au))) rfl rc2 rfl (by simpa using Kw.nil)) rfl ?_
    rintro v6 Φ_4 D2 ⟨fr3,h5⟩
    replace h5:OSl (RI .i64) 3 1 Φ_4 [] v6 ([s3]:List Int):=by simpa using h5
    replace k1:=k1.f0 fr3
    obtain ⟨x4,hx4,h⟩:=bs h
    refine le' (dE RI.lasts RI.one RI.flat bD tA rfl rfl rfl rfl rfl (js:=[1]) (Rr:=[ob v6]) rfl k1 h5.rsl hx4) rfl ?_
    rintro v7 Φ_5 D3 ⟨⟨ap2,fr4⟩,h6⟩
    refine art 8 [] rfl ?_
    exact lb [0] [0,0] (ih1 (_,_,_,_) ⟨h,h6⟩)
   refine ch h rfl ?_ ?_ <;> intro h
   ·refine att 3 [] rfl ?_
    exact wo [1] [0,0] (K _ h)
   refine WT.skip ?_
   exact wo [1] [0,0] (K _ h)
  refine att 7 [] rfl ?_
  exact lb [0] [0,0] (ih1 (_,_,_,_) ⟨h,k1⟩)
 refine att 6 [] rfl ?_
 exact rtg [0] hF (aG.one rfl) rfl (by cases h; exact fun w1 hw=>⟨u1,rfl,rfl,k1⟩)
theorem vP (w0:af Ψ Φ [ob pv2,pD2].flatten) (p0:ac) (p1:ae) (p2:(List aa)) (p3:av) (p4:Int) (ph0_0:RSl bt 3 Ψ pG0_0 pv0_0 p0.Pats) (ph0_1:RSl bl 11 Ψ pG0_1 pv0_1 p0.Conds) (ph0_2:RSl cX 5 Ψ pG0_2 pv0_2 p0.Acts) (ph1_0:RSl bn 3 Ψ pG1_0 pv1_0 p1.Items) (ph2:OSl aL 136 2 Φ pD2 pv2 p2) (ph3_0:RSl aD 3 Ψ pG3_0 pv3_0 p3.Fields) {r:(List aa)} (h:lZ N p0 p1 p2 p3 p4=some r) :
  Calls prog 146 [.agg [.string p0.Name,iV p0.Sal,pv0_0,pv0_1,pv0_2].toArray,.agg [pv1_0,iV p1.Next].toArray,pv2,.agg [.string p3.Kind,pv3_0].toArray,iV p4].toArray w0.w (aR Φ w0.w [ob pv2,pD2].flatten (fun Φ' Fs v=>∃ (Do_0_0:List Nat),v = .tuple #[]∧Fs=[ob pv2,Do_0_0]∧OSl aL 136 2 Φ' Do_0_0 pv2 r)):=by
 refine eL func146 rfl ntmps146 rfl (L:=[ob pv2,pD2]) w0 (fun hF=>?_)
 unfold lZ at h
 refine sr<|lbx rfl fun b_1=>lbx rfl fun b_2=>lbx rfl fun b_3=>art 6 [] rfl ?_
 refine lin (σ:=Hp × (List aa) × List Nat × Int) (fun s=>[(2,pv2),(4,iV p4),(5,pQ b_1),(6,pQ b_2),(8,pQ b_3),(10,iV s.2.2.2)]) (fun s=>St w0 s.1 [(b_3,.cells #[.string p3.Kind,pv3_0] 115 (0,0)),(b_2,.cells #[pv1_0,iV p1.Next] 47 (0,0)),(b_1,.cells #[.string p0.Name,iV p0.Sal,pv0_0,pv0_1,pv0_2] 109 (0,0))] [ob pv2,s.2.2.1]) (fun m s=>bO N p0 p1 p3 p4 m s.2.1 s.2.2.2=some r∧(OSl aL 136 2 s.1 s.2.2.1 pv2 s.2.1)) (Φ,p2,pD2,0) N ⟨h,ph2⟩ (sx [0,0] [0,0,0]) (fun n1 ih1 s hm=>?_)
 obtain ⟨Φ_1,s1,D1,s2⟩:=s
 obtain ⟨h,k1⟩:=hm
 dsimp only at h k1 ⊢
 unfold bO at h
 refine atr 5 [] rfl<|lno k1 rfl<|la rfl<|en ?_
 refine ch h rfl ?_ ?_ <;> intro h
 ·refine att 4 [] rfl<|WT.mix (Kn w0 Φ_1 (ob pv2) [(b_3,.cells #[.string p3.Kind,pv3_0] 115 (0,0)),(b_2,.cells #[pv1_0,iV p1.Next] 47 (0,0)),(b_1,.cells #[.string p0.Name,iV p0.Sal,pv0_0,pv0_1,pv0_2] 109 (0,0))]) (fun _=>true) mixed (fun _ h=>h.drew)<|mq 0 rfl (by kernel_rfl) (kn Kf.id (ai3 0 1 2 rfl rfl rfl)) (aq mQ rfl (fun w1 hw=>hw.rgO (i:=2) rfl 0 5 [.string p0.Name,iV p0.Sal,pv0_0,pv0_1,pv0_2] rfl) rfl) rfl ?_
  refine mq 1 rfl (by kernel_rfl) (kn Kf.id (ai3 0 1 2 rfl rfl rfl)) (aq tp rfl (fun w1 hw=>hw.rgO (i:=1) rfl 0 2 [pv1_0,iV p1.Next] rfl) rfl) rfl<|ma 2 rfl (by kernel_rfl) (kn Kf.id (ai3 0 1 2 rfl rfl rfl)) rfl<|ma 3 rfl (by kernel_rfl) (kn Kf.id (ai3 0 1 2 rfl rfl rfl)) rfl ?_
  obtain ⟨x1,hx1,h⟩:=bs h
  obtain ⟨cs1,F1,-,g1,hb1,hs1,r1⟩:=k1.elS (a7 hx1).2.2
  obtain ⟨v1,v2,rfl,rfl,h1,h2⟩:=r1
  have h3:=h1.rsl
  have h4:=h2.rsl
  refine mq 4 rfl (by kernel_rfl) (kn Kf.id (ai3 0 1 2 rfl rfl rfl)) (a8 fj rfl rfl k1.rsl hx1) rfl<|mq 5 rfl (by kernel_rfl) (kn Kf.id (ai3 0 1 2 rfl rfl rfl)) (ax nE rfl) rfl<|mq 6 rfl (by kernel_rfl) (kn Kf.id (ai3 0 1 2 rfl rfl rfl)) (aM nR rfl (fun w1 hw=>hw.rg hb1 (g1.of_eq 0 1 rfl rfl:rg _ _ _ [v1]))) rfl ?_
  obtain ⟨x2,hx2,h⟩:=bs h
  refine WM.one 7 (by kernel_rfl) (mc rfl (fun _ v Φx D w1 hq hw=>Kn.of (Kf.id.st hq.2.1 (hq.1.r (i:=0) rfl)) (ai3 0 1 2 rfl rfl rfl) hw) (cW (js:=[]) (R:=[ob pv2,D1]) HC rfl rfl (fun w1 hw ap hl=>mJ N (ba hw.fro) p0 p1 x1.Ids (ph0_0.y hw.up) (ph0_1.y hw.up) (ph0_2.y hw.up) (ph1_0.y hw.up) h3  hx2)) rfl ?_)
  rintro v3 Φ_2 F2 ⟨ap1,fr1,v4,rfl,rfl,h5⟩
  replace k1:=k1.fr fr1 (ap1.q 0 rfl) (ap1.q 1 rfl)
  have kf1:=(Kf.id (F:=(ob pv2)):Kf Φ_1 _ _).st fr1 (ap1.q 0 rfl)
  refine ma 8 rfl (by kernel_rfl) (kn kf1 (ai3 0 1 2 rfl rfl rfl)) rfl<|ma 9 rfl (by kernel_rfl) (kn kf1 (ai3 0 1 2 rfl rfl rfl)) rfl<|ma 10 rfl (by kernel_rfl) (kn kf1 (ai3 0 1 2 rfl rfl rfl)) rfl<|ma 11 rfl (by kernel_rfl) (kn kf1 (ai3 0 1 2 rfl rfl rfl)) rfl<|ma 12 rfl (by kernel_rfl) (kn kf1 (ai3 0 1 2 rfl rfl rfl)) rfl<|WM.nil (by kernel_rfl)<|atr 5 [69,2] rfl<|kab h rfl rfl rfl (fun b z q=>sB N b p0 p3 x2.1 (ph0_0.y z) (ph0_1.y z) (ph0_2.y z) (ph3_0.y z) h5.rsl q) ?_
  rintro x3 h v5 Φ_3 F3 ⟨ap2,fr2,v6,rfl,rfl,h6⟩
  replace k1:=k1.fr fr2 (ap2.q 1 rfl) (ap2.q 2 rfl)
  refine art 7 [] rfl ?_
  refine lin (σ:=Hp × (List aa) × List Nat × Int) (fun s=>[(2,pv2),(4,iV p4),(5,pQ b_1),(6,pQ b_2),(8,pQ b_3),(10,iV s2),(12,.bool x2.2),(13,v5),(14,iV s.2.2.2)]) (fun s=>St w0 s.1 [(b_3,.cells #[.string p3.Kind,pv3_0] 115 (0,0)),(b_2,.cells #[pv1_0,iV p1.Next] 47 (0,0)),(b_1,.cells #[.string p0.Name,iV p0.Sal,pv0_0,pv0_1,pv0_2] 109 (0,0))] [ob v5,ob pv2,s.2.2.1]) (fun m s=>cJ N p4 s2 (bO N p0 p1 p3 p4 n1) x2 x3 m s.2.1 s.2.2.2=some r∧(OSl aL 136 2 s.1 s.2.2.1 pv2 s.2.1)∧(OSl (RI .i64) 3 1 s.1 [] v5 x3)) (Φ_3,s1,D1,0) N ⟨h,k1,h6⟩ (sx [0,1,1] [0,0,0]) (fun n2 ih2 s hm=>?_)
  obtain ⟨Φ_4,s3,D2,s4⟩:=s
  obtain ⟨h,k2,h6⟩:=hm
  dsimp only at h k2 h6 ⊢
  unfold cJ at h
  refine atr 5 [] rfl<|lno h6 rfl<|arr 2 [] rfl ?_
  obtain ⟨b1,hb_1,h⟩:=bs h
  refine WL.cutN 2 [(42,.bool b1),(2,pv2),(4,iV p4),(5,pQ b_1),(6,pQ b_2),(8,pQ b_3),(10,iV s2),(12,.bool x2.2),(13,v5),(14,iV s4)] ?_ (fun K=>?_)
  rotate_left
  ·refine sp 40 hb_1 rfl (fun hb_1=>?_) fun hb_1=>?_
   ·refine arr 2 [] rfl ?_
    cases hb_1
    exact ku K
   ·refine arr 2 [] rfl ?_
    cases hb_1
    exact ku K
  refine en ?_
  refine ch h rfl ?_ ?_ <;> intro h
  ·refine att 3 [] rfl ?_
   obtain ⟨x4,hx4,h⟩:=bs h
   obtain ⟨cs2,F4,D3,h7,r2,kf1,sp1⟩:=k2.focus hx4
   obtain ⟨v7,v8,rfl,rfl,h8,h9⟩:=r2
   refine wtL [ob v7,ob v8,D3,ob v5,ob pv2] (sre [2] [ob v7,ob v8,D3] rfl (by simpa [List.append_assoc] using sp1))<|WT.mix (Kn w0 Φ_4 (ob pv2++(ob v8++ob v5)) [(b_3,.cells #[.string p3.Kind,pv3_0] 115 (0,0)),(b_2,.cells #[pv1_0,iV p1.Next] 47 (0,0)),(b_1,.cells #[.string p0.Name,iV p0.Sal,pv0_0,pv0_1,pv0_2] 109 (0,0))]) (fun i=>match i with | 22=>false | _=>true) mixed (fun _ h=>h.drew)<|ma 0 rfl (by kernel_rfl) (kn Kf.id (ai3 0 1 2 rfl rfl rfl)) rfl<|ma 1 rfl (by kernel_rfl) (kn Kf.id (ai3 0 1 2 rfl rfl rfl)) rfl ?_
   refine mq 2 rfl (by kernel_rfl) (kn Kf.id (ai3 0 1 2 rfl rfl rfl)) (cZ fj rfl rfl h7 hx4) rfl<|mq 3 rfl (by kernel_rfl) (kn Kf.id (ai3 0 1 2 rfl rfl rfl)) (ax kU rfl) rfl<|mq 4 rfl (by kernel_rfl) (kn Kf.id (ai3 0 1 2 rfl rfl rfl)) (aM nR rfl (fun w1 hw=>hw.rg (List.mem_append.2 (.inl h7.hb)) (h7.rg.of_eq 1 1 rfl rfl:rg _ _ _ [v8]))) rfl<|ma 5 rfl (by kernel_rfl) (kn Kf.id (ai3 0 1 2 rfl rfl rfl)) rfl<|ma 6 rfl (by kernel_rfl) (kn Kf.id (ai3 0 1 2 rfl rfl rfl)) rfl<|ma 7 rfl (by kernel_rfl) (kn Kf.id (ai3 0 1 2 rfl rfl rfl)) rfl ?_
   refine mq 8 rfl (by kernel_rfl) (kn Kf.id (ai3 0 1 2 rfl rfl rfl)) (cZ fj rfl rfl h7 hx4) rfl<|mq 9 rfl (by kernel_rfl) (kn Kf.id (ai3 0 1 2 rfl rfl rfl)) (ax kU rfl) rfl<|mq 10 rfl (by kernel_rfl) (kn Kf.id (ai3 0 1 2 rfl rfl rfl)) (aM nR rfl (fun w1 hw=>hw.rg (List.mem_append.2 (.inl h7.hb)) (h7.rg.of_eq 1 1 rfl rfl:rg _ _ _ [v8]))) rfl<|ma 11 rfl (by kernel_rfl) (kn Kf.id (ai3 0 1 2 rfl rfl rfl)) rfl ?_
   obtain ⟨x5,hx5,h⟩:=bs h
   obtain ⟨cs3,F5,-,g2,hb3,hs2,r3⟩:=h9.elS (a7 hx5).2.2
   obtain ⟨rfl,-⟩:=r3
   refine mq 12 rfl (by kernel_rfl) (kn Kf.id (ai3 0 1 2 rfl rfl rfl)) (a8 bD rfl rfl h9.rsl hx5) rfl<|mq 13 rfl (by kernel_rfl) (kn Kf.id (ai3 0 1 2 rfl rfl rfl)) (aM rU rfl (fun w1 hw=>hw.rg (List.mem_append.2 (.inr (List.mem_append.2 (.inl hb3)))) (g2.of_eq 0 1 rfl rfl:rg _ _ _ [iV x5]))) rfl<|ma 14 rfl (by kernel_rfl) (kn Kf.id (ai3 0 1 2 rfl rfl rfl)) rfl<|ma 15 rfl (by kernel_rfl) (kn Kf.id (ai3 0 1 2 rfl rfl rfl)) rfl<|ma 16 rfl (by kernel_rfl) (kn Kf.id (ai3 0 1 2 rfl rfl rfl)) rfl ?_
   obtain ⟨x6,hx6,h⟩:=bs h
   obtain ⟨cs4,F6,-,g3,hb4,hs3,r4⟩:=h6.elS (a7 hx6).2.2
   obtain ⟨rfl,-⟩:=r4
   refine mq 17 rfl (by kernel_rfl) (kn Kf.id (ai3 0 1 2 rfl rfl rfl)) (a8 bD rfl rfl h6.rsl hx6) rfl<|mq 18 rfl (by kernel_rfl) (kn Kf.id (ai3 0 1 2 rfl rfl rfl)) (aM rU rfl (fun w1 hw=>hw.rg (List.mem_append.2 (.inr (List.mem_append.2 (.inr hb4)))) (g3.of_eq 0 1 rfl rfl:rg _ _ _ [iV x6]))) rfl<|ma 19 rfl (by kernel_rfl) (kn Kf.id (ai3 0 1 2 rfl rfl rfl)) rfl<|ma 20 rfl (by kernel_rfl) (kn Kf.id (ai3 0 1 2 rfl rfl rfl)) rfl ?_
   obtain ⟨x7,hx7,h⟩:=bs h
   obtain ⟨cs5,F7,-,g4,hb5,hs4,r5⟩:=h9.elS (a7 hx7).2.2
   obtain ⟨rfl,-⟩:=r5
   refine mq 21 rfl (by kernel_rfl) (kn Kf.id (ai3 0 1 2 rfl rfl rfl)) (a8 bD rfl rfl h9.rsl hx7) rfl ?_
   refine WM.one 22 (by kernel_rfl) (mu rfl (fun hc=>by cases hc) (rD (js:=[1]) (Rr:=[ob v7,D3,ob v5,ob pv2]) (vs:=[iV (wz (x5+(wz (p4*x6))))]) (x':=wz (x5+(wz (p4*x6)))) RI.lasts RI.flat u6 rfl rfl rfl rfl ⟨rfl,trivial⟩ rfl h9 (ir hx7) ⟨rfl,rfl⟩) rfl ?_)
   rintro Φ_5 D4 ⟨⟨ap3,fr3⟩,h10⟩
   replace h7:=h7.fr fr3 (ap3.q 3 rfl) (ap3.q 1 rfl)
   replace h6:=h6.fr fr3 (ap3.q 2 rfl) dN
   replace h8:=h8.fr fr3 (ap3.q 0 rfl) dN
   refine WM.nil (by kernel_rfl)<|att 6 [] rfl ?_
   have r6:aL Φ_5 _ [v7,v8] (⟨x4.Ids,(x4.Hits.set s4.toNat (wz (x5+(wz (p4*x6)))))⟩:aa):=⟨v7,v8,rfl,rfl,h8,h10⟩
   obtain ⟨D5,h11,sp2⟩:=h7.unfocus r6 (aL.knows _ _ _ _ r6)
   refine wtL [D5,ob v5,ob pv2] (smg [1,0,0] rfl (by simpa [List.append_assoc,bW] using sp2)) ?_
   exact lb [1,1,0] [0,0,0] (ih2 (_,_,_,_) ⟨h,h11,h6⟩)
  refine att 7 [] rfl ?_
  exact lb [1,1] [0,0,0] (ih1 (_,_,_,_) ⟨h,k2⟩)
 refine xt rfl ?_
 refine WT.fin hF aG.none (fun w1 hw=>?_)
 cases h
 refine bK (js:=[0,0]) hw rfl ⟨D1,rfl,rfl,k1⟩
theorem og (w0:af Ψ Φ [ob pv0,pD0].flatten) (p0:(List aa)) (p1:ac) (p2:ae) (p3:(List Int)) (p4:Int) (ph0:OSl aL 136 2 Φ pD0 pv0 p0) (ph1_0:RSl bt 3 Ψ pG1_0 pv1_0 p1.Pats) (ph1_1:RSl bl 11 Ψ pG1_1 pv1_1 p1.Conds) (ph1_2:RSl cX 5 Ψ pG1_2 pv1_2 p1.Acts) (ph2_0:RSl bn 3 Ψ pG2_0 pv2_0 p2.Items) (ph3:RSl (RI .i64) 1 Ψ pG3 pv3 p3) {r:(List aa)} (h:iN N p0 p1 p2 p3 p4=some r) :
  Calls prog 147 [pv0,.agg [.string p1.Name,iV p1.Sal,pv1_0,pv1_1,pv1_2].toArray,.agg [pv2_0,iV p2.Next].toArray,pv3,iV p4].toArray w0.w (aR Φ w0.w [ob pv0,pD0].flatten (fun Φ' Fs v=>∃ (sr_0_0:Value) (Dr_0_0:List Nat),v=sr_0_0∧Fs=[ob sr_0_0,Dr_0_0]∧OSl aL 136 2 Φ' Dr_0_0 sr_0_0 r)):=by
 refine eL func147 rfl ntmps147 rfl (L:=[ob pv0,pD0]) w0 (fun hF=>?_)
 unfold iN at h
 refine sr<|lbx rfl fun b_1=>lbx rfl fun b_2=>arr 4 [] rfl<|le' (kD (R:=RI .i64) RI.lasts bD pb rfl rfl) rfl ?_
 rintro v1 Φ_1 D1 ⟨fr1,h1⟩
 replace ph0:=ph0.f0 fr1
 refine la rfl<|lu0 ph3 fun h2=>?_
 obtain ⟨x1,hx1,h⟩:=bs h
 refine le' (dE RI.lasts RI.one RI.flat bD tA rfl rfl rfl rfl rfl (js:=[0]) (Rr:=[ob pv0,pD0]) rfl h1 h2 hx1) rfl ?_
 rintro v2 Φ_2 D2 ⟨⟨ap1,fr2⟩,h3⟩
 replace ph0:=ph0.fr fr2 (ap1.q 0 rfl) (ap1.q 1 rfl)
 refine la rfl ?_
 have rc2:RC (RI .i64) 1 Φ_2 ([[]]:List (List Nat)) [iV p4] ([p4]:List Int):=RC.cons (c:=[iV p4]) (cells:=[]) ⟨rfl,rfl⟩ rfl (RC.nil _ _ _)
 refine le' (cU (vs:=[(0,iV p4)]) (C:=#[iV p4]) RI.lasts bD pb rfl rfl rfl rfl (aK kv (ai (C':=[iV p4]) rfl rfl rfl rfl rfl (au))) rfl rc2 rfl (by simpa using Kw.nil)) rfl ?_
 rintro v3 Φ_3 D3 ⟨fr3,h4⟩
 replace h4:OSl (RI .i64) 3 1 Φ_3 [] v3 ([p4]:List Int):=by simpa using h4
 replace ph0:=ph0.f0 fr3
 replace h3:=h3.f0 fr3
 obtain ⟨x2,hx2,h⟩:=bs h
 refine le' (dE RI.lasts RI.one RI.flat bD tA rfl rfl rfl rfl rfl (js:=[1]) (Rr:=[ob v3,ob pv0,pD0]) rfl h3 h4.rsl hx2) rfl ?_
 rintro v4 Φ_4 D4 ⟨⟨ap2,fr4⟩,h5⟩
 replace ph0:=ph0.fr fr4 (ap2.q 1 rfl) (ap2.q 2 rfl)
 refine arr 7 [37,2] rfl<|kab h rfl rfl rfl (fun b z q=>mJ N b p1 p2 x2 (ph1_0.y z) (ph1_1.y z) (ph1_2.y z) (ph2_0.y z) h5.rsl q) ?_
 rintro x3 h v5 Φ_5 F1 ⟨ap3,fr5,v6,rfl,rfl,h6⟩
 replace ph0:=ph0.fr fr5 (ap3.q 2 rfl) (ap3.q 3 rfl)
 replace h5:=h5.fr fr5 (ap3.q 0 rfl) dN
 refine art 12 [] rfl ?_
 refine ch h rfl ?_ ?_ <;> intro h
 ·refine att 5 [] rfl ?_
  exact rtg [3,3] hF (aG.one rfl) rfl (by cases h; exact fun w1 hw=>⟨pv0,pD0,rfl,rfl,ph0⟩)
 refine atr 5 [] rfl<|le' (kD (R:=RI .i64) RI.lasts bD pb rfl rfl) rfl ?_
 rintro v7 Φ_6 D5 ⟨fr6,h7⟩
 replace ph0:=ph0.f0 fr6
 replace h5:=h5.f0 fr6
 refine lq (cA (vs:=[(0,v4),(1,v7)]) (C:=#[v4,v7]) Gc iu rfl (ai (C':=[v4,.slice none 0 0]) rfl (ep h5.one) rfl rfl rfl (ai (C':=[v4,v7]) rfl (ep h7.one) rfl rfl rfl (au)))) rfl ?_
 have rc4:RC aL 2 Φ_6 ([(ob v4++[])++((ob v7++[]))]:List (List Nat)) [v4,v7] ([(⟨x2,([]:List Int)⟩:aa)]:List aa):=RC.cons (c:=[v4,v7]) (cells:=[]) ⟨v4,v7,rfl,rfl,h5,h7⟩ rfl (RC.nil _ _ _)
 refine le' (cU (vs:=[(0,.agg [v4,v7].toArray)]) (C:=#[v4,v7]) aL.lasts fj iu rfl rfl rfl rfl (aK CI (ai (C':=[v4,v7]) rfl rfl rfl rfl rfl (au))) rfl rc4 rfl (RC.kn aL.knows rc4)) rfl ?_
 rintro v8 Φ_7 D6 ⟨fr7,h8⟩
 replace h8:OSl aL 136 2 Φ_7 ((ob v4++[])++((ob v7++[]))) v8 ([(⟨x2,([]:List Int)⟩:aa)]:List aa):=by simpa [List.append_assoc] using h8
 replace ph0:=ph0.f0 fr7
 refine wlL [((ob v4++[])++((ob v7++[]))),ob v8,ob v6,ob v3,ob pv0,pD0] (smg [3,1] rfl (SP.eq (by simp [List.append_assoc,bW]))) ?_
 obtain ⟨x4,hx4,h⟩:=bs h
 refine le' (j6 aL.lasts aL.one fj rq rfl rfl rfl rfl rfl (js:=[4]) (Rr:=[((ob v4++[])++((ob v7++[]))),ob v8,ob v6,ob v3,pD0]) rfl ph0 h8 (fun ap=>ap.q 4 rfl) (fun ap=>ap.q 0 rfl) hx4) rfl ?_
 rintro v9 Φ_8 D7 ⟨⟨ap4,fr8⟩,h9⟩
 refine wlL [(pD0++((ob v4++[])++((ob v7++[])))),ob v9,ob v8,ob v6,ob v3] (smg [5,1] rfl (SP.eq (by simp)))<|la rfl<|en ?_
 exact rtg [1,0] hF (aG.one rfl) rfl (by cases h; exact fun w1 hw=>⟨v9,(pD0++((ob v4++[])++((ob v7++[])))),rfl,rfl,h9⟩)
theorem uQ (w0:af Ψ Φ [ob pv2_0].flatten) (p0:ac) (p1:ae) (p2:aa) (ph0_0:RSl bt 3 Ψ pG0_0 pv0_0 p0.Pats) (ph0_1:RSl bl 11 Ψ pG0_1 pv0_1 p0.Conds) (ph0_2:RSl cX 5 Ψ pG0_2 pv0_2 p0.Acts) (ph1_0:RSl bn 3 Ψ pG1_0 pv1_0 p1.Items) (ph2_0:OSl (RI .i64) 3 1 Φ [] pv2_0 p2.Ids) (ph2_1:RSl (RI .i64) 1 Ψ pG2_1 pv2_1 p2.Hits) {r:aa} (h:kJ N p0 p1 p2=some r) :
  Calls prog 148 [.agg [.string p0.Name,iV p0.Sal,pv0_0,pv0_1,pv0_2].toArray,.agg [pv1_0,iV p1.Next].toArray,.agg [pv2_0,pv2_1].toArray].toArray w0.w (aR Φ w0.w [ob pv2_0].flatten (fun Φ' Fs v=>∃ (sr_0_0:Value) (sr_0_1:Value),v = .agg [sr_0_0,sr_0_1].toArray∧Fs=[ob sr_0_0,ob sr_0_1]∧OSl (RI .i64) 3 1 Φ' [] sr_0_0 r.Ids∧OSl (RI .i64) 3 1 Φ' [] sr_0_1 r.Hits)):=by
 refine eL func148 rfl ntmps148 rfl (L:=[ob pv2_0]) w0 (fun hF=>?_)
 unfold kJ at h
 refine sr<|lbx rfl fun b_1=>lbx rfl fun b_2=>lbx rfl fun b_3=>lnz iu rfl fun b_4=>arr 7 [101,66,0,32] rfl<|kab h rfl rfl rfl (fun b z q=>mJ N b p0 p1 p2.Ids (ph0_0.y z) (ph0_1.y z) (ph0_2.y z) (ph1_0.y z) ph2_0.rsl q) ?_
 rintro x1 h v1 Φ_1 F1 ⟨ap1,fr1,v2,rfl,rfl,h1⟩
 replace ph2_0:=ph2_0.fr fr1 (ap1.q 0 rfl) dN
 refine art 7 [] rfl<|wm [0,1,2,3] [8] rfl<|amm 2 [0,2,1,96] [0,1,2,3] rfl rfl<|mq 2 rfl (by kernel_rfl) (kN [0,1,2,3]) (sU qP rfl rfl ph0_0) rfl<|amm 1 [3,101] [0,1,2,3] rfl rfl ?_
 obtain ⟨x2,hx2,h⟩:=bs h
 refine on1 4 (mp rfl (kS [0,1,2,3]) (pdP rfl (rc N · p0 ph0_0 ph0_1 ph0_2 hx2)) rfl ?_)
 refine amm 1 [5] [0,1,2,3] rfl rfl ?_
 obtain ⟨x3,hx3,h⟩:=bs h
 refine WM.one 6 (by kernel_rfl) (me rfl (fun _ v Φx D w1 hq hw=>Kn.of Kf.nil (am [0,1,2,3] rfl) hw) (j5 (R:=(RI .i64)) bD pb La rfl rfl rfl (fun _=>⟨rfl,rfl⟩) rfl rfl (Int.le_refl _) hx3 (mY hx3)) rfl ?_)
 rintro v3 Φ_2 D1 ⟨fr2,h2⟩
 replace ph2_0:=ph2_0.f0 fr2
 replace h1:=h1.f0 fr2
 refine amm 1 [7,1] [0,1,2,3] rfl rfl ?_
 refine on1 8 (ms1 1 rfl nk qm rfl h2.one ?_)
 refine WM.nil (by kernel_rfl)<|att 6 [] rfl ?_
 refine lin (σ:=Hp × (List Int) × Int) (fun s=>[(3,pQ b_1),(4,pQ b_2),(5,pQ b_3),(6,pQ b_4),(7,v2),(9,iV s.2.2)]) (fun s=>St w0 s.1 [(b_4,.cells #[.slice none 0 0,.slice none 0 0] 136 (0,0)),(b_3,.cells #[pv2_0,v3] 136 (0,0)),(b_2,.cells #[pv1_0,iV p1.Next] 47 (0,0)),(b_1,.cells #[.string p0.Name,iV p0.Sal,pv0_0,pv0_1,pv0_2] 109 (0,0))] [ob v3,ob v2,ob pv2_0]) (fun m s=>cw N p0 p1 p2 x1 m s.2.1 s.2.2=some r∧(OSl (RI .i64) 3 1 s.1 [] pv2_0 p2.Ids)∧(OSl aV 289 4 s.1 [] v2 x1.1)∧(OSl (RI .i64) 3 1 s.1 [] v3 s.2.1)) (Φ_2,x3,0) N ⟨h,ph2_0,h1,h2⟩ (sx [0,0,0] [0,0,0,0]) (fun n1 ih1 s hm=>?_)
 obtain ⟨Φ_3,s1,s2⟩:=s
 obtain ⟨h,ph2_0,h1,k1⟩:=hm
 dsimp only at h ph2_0 h1 k1 ⊢
 unfold cw at h
 refine atr 6 [0,64] rfl<|lnr ph1_0 rfl<|la rfl<|en ?_
 refine ch h rfl ?_ ?_ <;> intro h
 ·refine att 4 [] rfl<|wm [0,1,2,3] [] rfl<|amm 4 [0,101,1,0,2,64,3] [0,1,2,3] rfl rfl ?_
  obtain ⟨x4,hx4,h⟩:=bs h
  obtain ⟨cs1,F2,-,g1,hb1,hs1,r1⟩:=ph1_0.el (a7 hx4).2.2
  obtain ⟨v4,G1,rfl,hq1,h3⟩:=r1
  obtain rfl:=hq1.symm
  refine mq 4 rfl (by kernel_rfl) (kN [0,1,2,3]) (a8 rP rfl rfl ph1_0 hx4) rfl<|amm 1 [5,1] [0,1,2,3] rfl rfl<|mq 6 rfl (by kernel_rfl) (kN [0,1,2,3]) (aq mV rfl (fun w1 hw=>(g1.of_eq 1 2 rfl rfl:rg _ _ _ [.string x4.F.Kind,v4]).rangeAt hw.1) rfl) rfl<|amm 1 [7] [0,1,2,3] rfl rfl ?_
  obtain ⟨x5,hx5,h⟩:=bs h
  refine WM.one 8 (by kernel_rfl) (mc rfl (fun _ v Φx D w1 hq hw=>Kn.of Kf.nil (am [0,1,2,3] rfl) hw) (cW (js:=[]) (R:=[ob v3,ob v2,ob pv2_0]) HF rfl rfl (fun w1 hw ap hl=>sB N (ba hw.fro) p0 x4.F x1.1 (ph0_0.y hw.up) (ph0_1.y hw.up) (ph0_2.y hw.up) (h3.y hw.up) h1.rsl  hx5)) rfl ?_)
  rintro v5 Φ_4 F3 ⟨ap2,fr3,v6,rfl,rfl,h4⟩
  replace ph2_0:=ph2_0.fr fr3 (ap2.q 2 rfl) dN
  replace h1:=h1.fr fr3 (ap2.q 1 rfl) dN
  replace k1:=k1.fr fr3 (ap2.q 0 rfl) dN
  refine amm 1 [9] [0,1,2,3] rfl rfl<|WM.nil (by kernel_rfl)<|att 5 [] rfl ?_
  refine lin (σ:=Hp × (List Int) × Int) (fun s=>[(3,pQ b_1),(4,pQ b_2),(5,pQ b_3),(6,pQ b_4),(7,v2),(9,iV s2),(10,v5),(11,iV s.2.2)]) (fun s=>St w0 s.1 [(b_4,.cells #[.slice none 0 0,.slice none 0 0] 136 (0,0)),(b_3,.cells #[pv2_0,v3] 136 (0,0)),(b_2,.cells #[pv1_0,iV p1.Next] 47 (0,0)),(b_1,.cells #[.string p0.Name,iV p0.Sal,pv0_0,pv0_1,pv0_2] 109 (0,0))] [ob v5,ob v3,ob v2,ob pv2_0]) (fun m s=>dy N s2 (cw N p0 p1 p2 x1 n1) x5 m s.2.1 s.2.2=some r∧(OSl (RI .i64) 3 1 s.1 [] pv2_0 p2.Ids)∧(OSl aV 289 4 s.1 [] v2 x1.1)∧(OSl (RI .i64) 3 1 s.1 [] v3 s.2.1)∧(OSl (RI .i64) 3 1 s.1 [] v5 x5)) (Φ_4,s1,0) N ⟨h,ph2_0,h1,k1,h4⟩ (sx [0,0,0,0] [0,0,0,0]) (fun n2 ih2 s hm=>?_)
  obtain ⟨Φ_5,s3,s4⟩:=s
  obtain ⟨h,ph2_0,h1,k2,h4⟩:=hm
  dsimp only at h ph2_0 h1 k2 h4 ⊢
  unfold dy at h
  refine atr 5 [] rfl<|lno h4 rfl<|la rfl<|en ?_
  refine ch h rfl ?_ ?_ <;> intro h
  ·refine att 3 [] rfl<|WT.mix (Kn w0 Φ_5 (ob v3++ob v5) [(b_4,.cells #[.slice none 0 0,.slice none 0 0] 136 (0,0)),(b_3,.cells #[pv2_0,v3] 136 (0,0)),(b_2,.cells #[pv1_0,iV p1.Next] 47 (0,0)),(b_1,.cells #[.string p0.Name,iV p0.Sal,pv0_0,pv0_1,pv0_2] 109 (0,0))]) (fun i=>match i with | 14=>false | _=>true) mixed (fun _ h=>h.drew)<|mq 0 rfl (by kernel_rfl) (kn Kf.id (am [0,1,2,3] rfl)) (ax kU rfl) rfl<|mq 1 rfl (by kernel_rfl) (kn Kf.id (am [0,1,2,3] rfl)) (aM nR rfl (fun w1 hw=>hw.rgO (i:=1) rfl 1 1 [v3] rfl)) rfl ?_
   refine ma 2 rfl (by kernel_rfl) (kn Kf.id (am [0,1,2,3] rfl)) rfl<|mq 3 rfl (by kernel_rfl) (kn Kf.id (am [0,1,2,3] rfl)) (ax kU rfl) rfl<|mq 4 rfl (by kernel_rfl) (kn Kf.id (am [0,1,2,3] rfl)) (aM nR rfl (fun w1 hw=>hw.rgO (i:=1) rfl 1 1 [v3] rfl)) rfl<|ma 5 rfl (by kernel_rfl) (kn Kf.id (am [0,1,2,3] rfl)) rfl ?_
   obtain ⟨x6,hx6,h⟩:=bs h
   obtain ⟨cs2,F4,-,g2,hb2,hs2,r2⟩:=k2.elS (a7 hx6).2.2
   obtain ⟨rfl,-⟩:=r2
   refine mq 6 rfl (by kernel_rfl) (kn Kf.id (am [0,1,2,3] rfl)) (a8 bD rfl rfl k2.rsl hx6) rfl<|mq 7 rfl (by kernel_rfl) (kn Kf.id (am [0,1,2,3] rfl)) (aM rU rfl (fun w1 hw=>hw.rg (List.mem_append.2 (.inl hb2)) (g2.of_eq 0 1 rfl rfl:rg _ _ _ [iV x6]))) rfl<|ma 8 rfl (by kernel_rfl) (kn Kf.id (am [0,1,2,3] rfl)) rfl<|ma 9 rfl (by kernel_rfl) (kn Kf.id (am [0,1,2,3] rfl)) rfl ?_
   obtain ⟨x7,hx7,h⟩:=bs h
   obtain ⟨cs3,F5,-,g3,hb3,hs3,r3⟩:=h4.elS (a7 hx7).2.2
   obtain ⟨rfl,-⟩:=r3
   refine mq 10 rfl (by kernel_rfl) (kn Kf.id (am [0,1,2,3] rfl)) (a8 bD rfl rfl h4.rsl hx7) rfl<|mq 11 rfl (by kernel_rfl) (kn Kf.id (am [0,1,2,3] rfl)) (aM rU rfl (fun w1 hw=>hw.rg (List.mem_append.2 (.inr hb3)) (g3.of_eq 0 1 rfl rfl:rg _ _ _ [iV x7]))) rfl<|ma 12 rfl (by kernel_rfl) (kn Kf.id (am [0,1,2,3] rfl)) rfl ?_
   obtain ⟨x8,hx8,h⟩:=bs h
   obtain ⟨cs4,F6,-,g4,hb4,hs4,r4⟩:=k2.elS (a7 hx8).2.2
   obtain ⟨rfl,-⟩:=r4
   refine mq 13 rfl (by kernel_rfl) (kn Kf.id (am [0,1,2,3] rfl)) (a8 bD rfl rfl k2.rsl hx8) rfl ?_
   refine WM.one 14 (by kernel_rfl) (mu rfl (fun hc=>by cases hc) (rD (js:=[1]) (Rr:=[ob v5,ob v2,ob pv2_0]) (vs:=[iV (wz (x6+x7))]) (x':=wz (x6+x7)) RI.lasts RI.flat u6 rfl rfl rfl rfl ⟨rfl,trivial⟩ rfl k2 (ir hx8) ⟨rfl,rfl⟩) rfl ?_)
   rintro Φ_6 D2 ⟨⟨ap3,fr4⟩,h5⟩
   replace ph2_0:=ph2_0.fr fr4 (ap3.q 2 rfl) dN
   replace h1:=h1.fr fr4 (ap3.q 1 rfl) dN
   replace h4:=h4.fr fr4 (ap3.q 0 rfl) dN
   refine WM.nil (by kernel_rfl)<|att 6 [] rfl ?_
   exact lb [1,0,0,0] [0,0,0,0] (ih2 (_,_,_) ⟨h,ph2_0,h1,h5,h4⟩)
  refine att 7 [] rfl ?_
  exact lb [1,1,1] [0,0,0,0] (ih1 (_,_,_) ⟨h,ph2_0,h1,k2⟩)
 refine atr 4 [34] rfl<|soN 0 pH rfl ⟨ph2_0.one,k1.one,trivial⟩ rfl ?_
 refine en ?_
 exact rtg [2,0] hF (aG.one (bw vv rfl (fun w1 hw=>hw.rgO (i:=0) rfl 0 2 [pv2_0,v3] rfl) rfl)) rfl (by cases h; exact fun w1 hw=>⟨pv2_0,v3,rfl,rfl,ph2_0,k1⟩)
theorem wJ (w0:af Ψ Φ [[pb2],ob pv2_1,pD2_1].flatten) (p0:ac) (p1:aC) (p2:aJ) (p3:Int) (p4:ae) (p5:Int) (p6:av) (p7:(List Bool)) (ph0_0:RSl bt 3 Ψ pG0_0 pv0_0 p0.Pats) (ph0_1:RSl bl 11 Ψ pG0_1 pv0_1 p0.Conds) (ph0_2:RSl cX 5 Ψ pG0_2 pv0_2 p0.Acts) (ph1_0:RSl (RI .i64) 1 Ψ pG1_0 pv1_0 p1.Pos) (ph1_1:RSl (RI .i64) 1 Ψ pG1_1 pv1_1 p1.Neg) (ph2_0:RSl dp 1 Ψ pG2_0 pv2_0 p2.Alphas) (ph2_1:OSl bd 72 1 Φ pD2_1 pv2_1 p2.Rules) (pp2:Φ pb2=some (.cells #[pv2_0,pv2_1] 43 (0,0))) (ph4_0:RSl bn 3 Ψ pG4_0 pv4_0 p4.Items) (ph6_0:RSl aD 3 Ψ pG6_0 pv6_0 p6.Fields) (ph7:RSl RB 1 Ψ pG7 pv7 p7) {r:aJ} (h:m3 N p0 p1 p2 p3 p4 p5 p6 p7=some r) :
  Calls prog 95 [.agg [.string p0.Name,iV p0.Sal,pv0_0,pv0_1,pv0_2].toArray,.agg [pv1_0,pv1_1].toArray,pQ pb2,iV p3,.agg [pv4_0,iV p4.Next].toArray,iV p5,.agg [.string p6.Kind,pv6_0].toArray,pv7].toArray w0.w (aR Φ w0.w [[pb2],ob pv2_1,pD2_1].flatten (fun Φ' Fs v=>∃ (so_0_1:Value) (Do_0_1:List Nat),v = .tuple #[]∧Fs=[[pb2],ob so_0_1,Do_0_1]∧r.Alphas=p2.Alphas∧OSl bd 72 1 Φ' Do_0_1 so_0_1 r.Rules∧Φ' pb2=some (.cells #[pv2_0,so_0_1] 43 (0,0)))):=by
 refine eL func95 rfl ntmps95 rfl (L:=[[pb2],ob pv2_1,pD2_1]) w0 (fun hF=>?_)
 unfold m3 at h
 refine sr<|lbx rfl fun b_1=>lbx rfl fun b_2=>lbx rfl fun b_3=>lbx rfl fun b_4=>arr 4 [] rfl<|lq (dG rfl) rfl<|lf wx rfl rfl rfl<|lgx 1 0 (jl pp2) rfl<|la rfl ?_
 obtain ⟨x1,hx1,h⟩:=bs h
 obtain ⟨cs1,F1,D1,h1,r1,kf1,sp1⟩:=ph2_1.focus hx1
 obtain ⟨v1,D2,rfl,rfl,h2⟩:=r1
 refine wlL [ob v1,D2,D1,[pb2],ob pv2_1] (sre [2] [ob v1,D2,D1] rfl (by simpa [List.append_assoc] using sp1))<|lih h1 hx1 rfl<|lf ja rfl rfl rfl<|lgx 0 0 h1.rg rfl<|arr 5 [] rfl<|lno h2 rfl<|art 4 [] rfl ?_
 obtain ⟨x2,hx2,h⟩:=bs h
 obtain ⟨cs2,F2,D3,h3,r2,kf2,sp2⟩:=h2.focus hx2
 obtain ⟨v2,D4,rfl,rfl,h4⟩:=r2
 refine wtL [ob v2,D4,D3,ob v1,D1,[pb2],ob pv2_1] (sre [1] [ob v2,D4,D3] rfl (by simpa [List.append_assoc] using sp2))<|WT.mix (Kn w0 Φ (ob v1) [(b_4,.cells #[.string p6.Kind,pv6_0] 115 (0,0)),(b_3,.cells #[pv4_0,iV p4.Next] 47 (0,0)),(b_2,.cells #[pv1_0,pv1_1] 121 (0,0)),(b_1,.cells #[.string p0.Name,iV p0.Sal,pv0_0,pv0_1,pv0_2] 109 (0,0))]) (fun i=>match i with | 8=>false | _=>true) mixed (fun _ h=>h.drew) ?_
 refine mq 0 rfl (by kernel_rfl) (kn Kf.id (am [0,1,2,3] rfl)) (aq mQ rfl (fun w1 hw=>hw.rgO (i:=3) rfl 0 5 [.string p0.Name,iV p0.Sal,pv0_0,pv0_1,pv0_2] rfl) rfl) rfl<|mq 1 rfl (by kernel_rfl) (kn Kf.id (am [0,1,2,3] rfl)) (aq tp rfl (fun w1 hw=>hw.rgO (i:=1) rfl 0 2 [pv4_0,iV p4.Next] rfl) rfl) rfl<|mq 7 rfl (by kernel_rfl) (kn Kf.id (am [0,1,2,3] rfl)) (aq mV rfl (fun w1 hw=>hw.rgO (i:=0) rfl 0 2 [.string p6.Kind,pv6_0] rfl) rfl) rfl<|mqT 2 [4,5,6,8] rfl (by kernel_rfl) (kn Kf.id (am [0,1,2,3] rfl)) (fo rfl) rfl ?_
 refine mqT 3 [4,5,6,8] rfl (by kernel_rfl) (kn Kf.id (am [0,1,2,3] rfl)) (fo rfl) rfl<|mqT 4 [5,6,8] rfl (by kernel_rfl) (kn Kf.id (am [0,1,2,3] rfl)) (cZ rn rfl rfl h3 hx2) rfl<|mqT 5 [6,8] rfl (by kernel_rfl) (kn Kf.id (am [0,1,2,3] rfl)) (ax gk rfl) rfl<|mq 6 rfl (by kernel_rfl) (kn Kf.id (am [0,1,2,3] rfl)) (aM Co rfl (fun w1 hw=>hw.rg h3.hb (h3.rg.of_eq 0 1 rfl rfl:rg _ _ _ [v2]))) rfl ?_
 obtain ⟨x3,hx3,h⟩:=bs h
 refine WM.one 8 (by kernel_rfl) (mc rfl (fun hc=>by cases hc) (cW (js:=[0,0]) (R:=[D3,ob v1,D1,[pb2],ob pv2_1]) H2 rfl rfl (fun w1 hw ap hl=>vP N (bx hw ap hl) p0 p4 x2.Toks p6 1 (ph0_0.y (hw.uo ap)) (ph0_1.y (hw.uo ap)) (ph0_2.y (hw.uo ap)) (ph4_0.y (hw.uo ap)) h4 (ph6_0.y (hw.uo ap))  hx3)) rfl ?_)
 rintro v3 Φ_1 F3 ⟨ap1,fr1,D5,rfl,rfl,h5⟩
 replace h1:=h1.fr fr1 (ap1.q 4 rfl) (ap1.q 2 rfl)
 replace h3:=h3.fr fr1 (ap1.q 1 rfl) (ap1.q 0 rfl)
 replace pp2:=fr1 _ _ ((ap1.q 3 rfl) _ (by simp)) pp2
 refine WM.nil (by kernel_rfl)<|sr ?_
 have rc1:RC aL 2 Φ_1 ([]:List (List Nat)) [] ([]:List aa):=RC.nil _ _ _
 refine le' (cU (vs:=[]) (C:=#[]) aL.lasts fj iu rfl rfl rfl rfl (aK tj (au)) rfl rc1 rfl (by simpa using Kw.nil)) rfl ?_
 rintro v4 Φ_2 D6 ⟨fr2,h6⟩
 replace h6:OSl aL 136 2 Φ_2 [] v4 ([]:List aa):=by simpa [List.append_assoc] using h6
 replace h1:=h1.f0 fr2
 replace h3:=h3.f0 fr2
 replace h5:=h5.f0 fr2
 replace pp2:=fr2 _ _ (by simp) pp2
 refine WL.conv (S':=St w0 Φ_2 [(b_4,.cells #[.string p6.Kind,pv6_0] 115 (0,0)),(b_3,.cells #[pv4_0,iV p4.Next] 47 (0,0)),(b_2,.cells #[pv1_0,pv1_1] 121 (0,0)),(b_1,.cells #[.string p0.Name,iV p0.Sal,pv0_0,pv0_1,pv0_2] 109 (0,0))] [[],ob v4,ob v2,D5,D3,ob v1,D1,[pb2],ob pv2_1]) (fun w1 hw=>hw.addNil)<|art 7 [] rfl ?_
 have r3:aN Φ_2 _ [v2] (⟨x3⟩:ab):=⟨v2,D5,rfl,rfl,h5⟩
 obtain ⟨D7,h7,sp3⟩:=h3.unfocus r3 (aN.knows _ _ _ _ r3)
 refine wtL [D7,[],ob v4,ob v1,D1,[pb2],ob pv2_1] (smg [2,2,2] rfl (by simpa [List.append_assoc,bW] using sp3)) ?_
 replace h6:=h6.gives aL.gives
 refine lin (σ:=Hp × (List ab) × List Nat × (List aa) × Value × List Nat × Int) (fun s=>[(2,pQ pb2),(5,iV p5),(7,pv7),(8,pQ b_1),(9,pQ b_2),(12,pQ b_3),(16,v1),(17,iV (wz ((x1.Levels.length:Int) - 1))),(18,s.2.2.2.2.1),(19,iV s.2.2.2.2.2.2)]) (fun s=>St w0 s.1 [(b_3,.cells #[pv4_0,iV p4.Next] 47 (0,0)),(b_2,.cells #[pv1_0,pv1_1] 121 (0,0)),(b_1,.cells #[.string p0.Name,iV p0.Sal,pv0_0,pv0_1,pv0_2] 109 (0,0))] [s.2.2.1,ob s.2.2.2.2.1,ob v1,D1,[pb2],ob pv2_1]) (fun m s=>aT N p0 p1 p2 p3 p4 p5 p7 x1 m s.2.1 s.2.2.2.1 s.2.2.2.2.2.2=some r∧(OSl aN 76 1 s.1 s.2.2.1 v1 s.2.1)∧(OSl bC 136 2 s.1 s.2.2.2.2.2.1 s.2.2.2.2.1 s.2.2.2.1)∧(∀ k∈s.2.2.2.2.2.1,k∈s.2.2.1)∧(s.1 pb2=some (.cells #[pv2_0,pv2_1] 43 (0,0)))∧(HSl bd 72 1 s.1 D1 pv2_1 p2.Rules p3.toNat [v1])) (Φ_2,(x1.Levels.set (wz ((x1.Levels.length:Int) - 1)).toNat (⟨x3⟩:ab)),D7,([]:List aa),v4,[],0) N ⟨h,h7,h6,(by simp),pp2,h1⟩ (sx [0,1,1,1,1,1] [1,1,1]) (fun n1 ih1 s hm=>?_)
 obtain ⟨Φ_3,s1,D8,s2,u1,D9,s3⟩:=s
 obtain ⟨h,k2,k3,i1,k4,k1⟩:=hm
 dsimp only at h k2 k3 i1 k4 k1 ⊢
 unfold aT at h
 refine att 7 [] rfl ?_
 refine ch h rfl ?_ ?_ <;> intro h
 ·refine atr 5 [] rfl ?_
  have rc2:RC aL 2 Φ_3 ([]:List (List Nat)) [] ([]:List aa):=RC.nil _ _ _
  refine le' (cU (vs:=[]) (C:=#[]) aL.lasts fj iu rfl rfl rfl rfl (aK tj (au)) rfl rc2 rfl (by simpa using Kw.nil)) rfl ?_
  rintro v5 Φ_4 D10 ⟨fr3,h8⟩
  replace h8:OSl aL 136 2 Φ_4 [] v5 ([]:List aa):=by simpa [List.append_assoc] using h8
  replace k1:=k1.f0 fr3
  replace k2:=k2.f0 fr3
  replace k3:=k3.f0 fr3
  replace k4:=fr3 _ _ (by simp) k4
  refine WL.conv (S':=St w0 Φ_4 [(b_3,.cells #[pv4_0,iV p4.Next] 47 (0,0)),(b_2,.cells #[pv1_0,pv1_1] 121 (0,0)),(b_1,.cells #[.string p0.Name,iV p0.Sal,pv0_0,pv0_1,pv0_2] 109 (0,0))] [[],ob v5,D8,ob u1,ob v1,D1,[pb2],ob pv2_1]) (fun w1 hw=>hw.addNil)<|arr 8 [] rfl ?_
  obtain ⟨b1,hb_1,h⟩:=bs h
  refine WL.cutN 8 [(64,.bool b1),(2,pQ pb2),(5,iV p5),(7,pv7),(8,pQ b_1),(9,pQ b_2),(12,pQ b_3),(16,v1),(17,iV (wz ((x1.Levels.length:Int) - 1))),(18,u1),(19,iV s3),(20,v5)] ?_ (fun K=>?_)
  rotate_left
  ·refine sp 56 hb_1 rfl (fun hb_1=>?_) fun hb_1=>?_
   ·refine arr 3 [0,32] rfl<|ly rfl rfl ?_
    obtain ⟨x4,hx4,hb_1⟩:=bs hb_1
    obtain ⟨cs3,F4,-,g1,hb3,hs1,r4⟩:=ph1_0.el (a7 hx4).2.2
    obtain ⟨rfl,-⟩:=r4
    refine lia ph1_0 hx4 rfl<|ly rfl rfl<|lhx 0 0 g1 rfl<|ly rfl rfl ?_
    obtain ⟨x5,hx5,hb_1⟩:=bs hb_1
    obtain ⟨cs4,F5,-,g2,hb4,hs2,r5⟩:=ph7.el (a7 hx5).2.2
    obtain ⟨rfl,-⟩:=r5
    refine lia ph7 hx5 rfl<|ly rfl rfl<|lhx 0 0 g2 rfl<|la rfl ?_
    cases hb_1
    exact ku K
   ·refine arr 8 [] rfl ?_
    cases hb_1
    exact ku K
  refine en ?_
  refine cut (σ:=Hp × (List aa) × Value × List Nat) (fun s=>[(2,pQ pb2),(5,iV p5),(7,pv7),(8,pQ b_1),(9,pQ b_2),(12,pQ b_3),(16,v1),(17,iV (wz ((x1.Levels.length:Int) - 1))),(18,u1),(19,iV s3),(20,s.2.2.1)]) (fun s=>St w0 s.1 [(b_3,.cells #[pv4_0,iV p4.Next] 47 (0,0)),(b_2,.cells #[pv1_0,pv1_1] 121 (0,0)),(b_1,.cells #[.string p0.Name,iV p0.Sal,pv0_0,pv0_1,pv0_2] 109 (0,0))] [s.2.2.2,ob s.2.2.1,D8,ob u1,ob v1,D1,[pb2],ob pv2_1]) (fun s=>fb N p0 p1 p2 p4 p5 p7 x1 s1 s2 s3 (aT N p0 p1 p2 p3 p4 p5 p7 x1 n1) s.2.1=some r∧(OSl aN 76 1 s.1 D8 v1 s1)∧(OSl bC 136 2 s.1 D9 u1 s2)∧(OSl aL 136 2 s.1 s.2.2.2 s.2.2.1 s.2.1)∧(s.1 pb2=some (.cells #[pv2_0,pv2_1] 43 (0,0)))∧(HSl bd 72 1 s.1 D1 pv2_1 p2.Rules p3.toNat [v1])) (fun s hm=>?_) (fun K=>?_)
  ·clear h
   obtain ⟨Φ_5,s4,u2,D11⟩:=s
   obtain ⟨h,k2,k3,k6,k7,k5⟩:=hm
   dsimp only at h k2 k3 k6 k7 k5 ⊢
   unfold fb at h
   refine att 10 [] rfl ?_
   refine cut (σ:=Int) (fun s=>[(2,pQ pb2),(5,iV p5),(7,pv7),(8,pQ b_1),(9,pQ b_2),(12,pQ b_3),(16,v1),(17,iV (wz ((x1.Levels.length:Int) - 1))),(18,u1),(19,iV s3),(20,u2),(21,iV s)]) (fun s=>St w0 Φ_5 [(b_3,.cells #[pv4_0,iV p4.Next] 47 (0,0)),(b_2,.cells #[pv1_0,pv1_1] 121 (0,0)),(b_1,.cells #[.string p0.Name,iV p0.Sal,pv0_0,pv0_1,pv0_2] 109 (0,0))] [D11,ob u2,D8,ob u1,ob v1,D1,[pb2],ob pv2_1]) (fun s=>gm N p0 p1 p2 p4 p5 p7 x1 s1 s2 s3 (aT N p0 p1 p2 p3 p4 p5 p7 x1 n1) s4 s=some r∧(HSl bd 72 1 Φ_5 D1 pv2_1 p2.Rules p3.toNat [v1])) (fun s hm=>?_) (fun K=>?_)
   ·clear h
    revert hm; revert s; intro s5 hm
    obtain ⟨h,k8⟩:=hm
    try dsimp only at h k8 ⊢
    unfold gm at h
    refine att 6 [] rfl ?_
    refine lin (σ:=Hp × (List aa) × Value × List Nat × Int) (fun s=>[(2,pQ pb2),(5,iV p5),(7,pv7),(8,pQ b_1),(9,pQ b_2),(12,pQ b_3),(16,v1),(17,iV (wz ((x1.Levels.length:Int) - 1))),(18,u1),(19,iV s3),(20,s.2.2.1),(21,iV s5),(22,iV s.2.2.2.2)]) (fun s=>St w0 s.1 [(b_3,.cells #[pv4_0,iV p4.Next] 47 (0,0)),(b_2,.cells #[pv1_0,pv1_1] 121 (0,0)),(b_1,.cells #[.string p0.Name,iV p0.Sal,pv0_0,pv0_1,pv0_2] 109 (0,0))] [s.2.2.2.1,ob s.2.2.1,D8,ob u1,ob v1,D1,[pb2],ob pv2_1]) (fun m s=>cI N p0 p1 p2 p4 p5 p7 x1 s1 s2 s3 (aT N p0 p1 p2 p3 p4 p5 p7 x1 n1) s5 m s.2.1 s.2.2.2.2=some r∧(OSl aN 76 1 s.1 D8 v1 s1)∧(OSl bC 136 2 s.1 D9 u1 s2)∧(OSl aL 136 2 s.1 s.2.2.2.1 s.2.2.1 s.2.1)∧(s.1 pb2=some (.cells #[pv2_0,pv2_1] 43 (0,0)))∧(HSl bd 72 1 s.1 D1 pv2_1 p2.Rules p3.toNat [v1])) (Φ_5,s4,u2,D11,0) N ⟨h,k2,k3,k6,k7,k8⟩ (sx [0,0,0,0,0,0,0,0] [0,0,0]) (fun n4 ih4 s hm=>?_)
    obtain ⟨Φ_6,s6,u3,D12,s7⟩:=s
    obtain ⟨h,k2,k3,k10,k11,k9⟩:=hm
    dsimp only at h k2 k3 k10 k11 k9 ⊢
    unfold cI at h
    refine atr 7 [] rfl ?_
    obtain ⟨b2,hb_2,h⟩:=bs h
    refine WL.cutN 9 [(95,.bool b2),(2,pQ pb2),(5,iV p5),(7,pv7),(8,pQ b_1),(9,pQ b_2),(12,pQ b_3),(16,v1),(17,iV (wz ((x1.Levels.length:Int) - 1))),(18,u1),(19,iV s3),(20,u3),(21,iV s5),(22,iV s7)] ?_ (fun K=>?_)
    rotate_left
    ·refine sp 86 hb_2 rfl (fun hb_2=>?_) fun hb_2=>?_
     ·refine arr 4 [0,32] rfl<|ly rfl rfl ?_
      obtain ⟨x6,hx6,hb_2⟩:=bs hb_2
      obtain ⟨cs5,F6,-,g3,hb5,hs3,r6⟩:=ph1_0.el (a7 hx6).2.2
      obtain ⟨rfl,-⟩:=r6
      refine lia ph1_0 hx6 rfl<|ly rfl rfl<|lhx 0 0 g3 rfl<|ly rfl rfl ?_
      obtain ⟨x7,hx7,hb_2⟩:=bs hb_2
      obtain ⟨cs6,F7,-,g4,hb6,hs4,r7⟩:=ph7.el (a7 hx7).2.2
      obtain ⟨rfl,-⟩:=r7
      refine lia ph7 hx7 rfl<|ly rfl rfl<|lhx 0 0 g4 rfl<|la rfl ?_
      cases hb_2
      exact ku K
     ·refine arr 9 [] rfl ?_
      cases hb_2
      exact ku K
    refine en ?_
    refine ch h rfl ?_ ?_ <;> intro h
    ·refine att 3 [] rfl<|WT.mix (Kn w0 Φ_6 (ob v1++D8) [(b_3,.cells #[pv4_0,iV p4.Next] 47 (0,0)),(b_2,.cells #[pv1_0,pv1_1] 121 (0,0)),(b_1,.cells #[.string p0.Name,iV p0.Sal,pv0_0,pv0_1,pv0_2] 109 (0,0))]) (fun _=>true) mixed (fun _ h=>h.drew)<|ma 0 rfl (by kernel_rfl) (kn Kf.id (ai3 0 1 2 rfl rfl rfl)) rfl<|mq 1 rfl (by kernel_rfl) (kn Kf.id (ai3 0 1 2 rfl rfl rfl)) (aq mQ rfl (fun w1 hw=>hw.rgO (i:=2) rfl 0 5 [.string p0.Name,iV p0.Sal,pv0_0,pv0_1,pv0_2] rfl) rfl) rfl ?_
     refine mq 2 rfl (by kernel_rfl) (kn Kf.id (ai3 0 1 2 rfl rfl rfl)) (aq tp rfl (fun w1 hw=>hw.rgO (i:=0) rfl 0 2 [pv4_0,iV p4.Next] rfl) rfl) rfl<|ma 3 rfl (by kernel_rfl) (kn Kf.id (ai3 0 1 2 rfl rfl rfl)) rfl<|ma 4 rfl (by kernel_rfl) (kn Kf.id (ai3 0 1 2 rfl rfl rfl)) rfl<|ma 5 rfl (by kernel_rfl) (kn Kf.id (ai3 0 1 2 rfl rfl rfl)) rfl ?_
     obtain ⟨x8,hx8,h⟩:=bs h
     obtain ⟨cs7,F8,-,g5,hb7,hs5,r8⟩:=k2.elS (a7 hx8).2.2
     obtain ⟨v6,D13,rfl,rfl,h9⟩:=r8
     have h10:=h9.rslG aL.gives
     refine mq 6 rfl (by kernel_rfl) (kn Kf.id (ai3 0 1 2 rfl rfl rfl)) (a8 rn rfl rfl k2.rsl hx8) rfl<|mq 7 rfl (by kernel_rfl) (kn Kf.id (ai3 0 1 2 rfl rfl rfl)) (ax gk rfl) rfl<|mq 8 rfl (by kernel_rfl) (kn Kf.id (ai3 0 1 2 rfl rfl rfl)) (aM Co rfl (fun w1 hw=>hw.rg (List.mem_append.2 (.inl hb7)) (g5.of_eq 0 1 rfl rfl:rg _ _ _ [v6]))) rfl<|ma 9 rfl (by kernel_rfl) (kn Kf.id (ai3 0 1 2 rfl rfl rfl)) rfl ?_
     obtain ⟨x9,hx9,h⟩:=bs h
     obtain ⟨cs8,F9,-,g6,hb8,hs6,r9⟩:=h10.el (a7 hx9).2.2
     obtain ⟨v7,G1,v8,G2,rfl,rfl,h11,h12⟩:=r9
     refine mq 10 rfl (by kernel_rfl) (kn Kf.id (ai3 0 1 2 rfl rfl rfl)) (a8 fj rfl rfl h10 hx9) rfl<|mq 11 rfl (by kernel_rfl) (kn Kf.id (ai3 0 1 2 rfl rfl rfl)) (ax nE rfl) rfl<|mq 12 rfl (by kernel_rfl) (kn Kf.id (ai3 0 1 2 rfl rfl rfl)) (aM nR rfl (fun w1 hw=>hw.rg (List.mem_append.2 (.inr ((fun k h=>hs5 k h) _ hb8))) (g6.of_eq 0 1 rfl rfl:rg _ _ _ [v7]))) rfl<|ma 13 rfl (by kernel_rfl) (kn Kf.id (ai3 0 1 2 rfl rfl rfl)) rfl ?_
     obtain ⟨x10,hx10,h⟩:=bs h
     refine WM.one 14 (by kernel_rfl) (mc rfl (fun _ v Φx D w1 hq hw=>Kn.of (Kf.id.st hq.2.1 (Dj.app (hq.1.r (i:=2) rfl) (hq.1.r (i:=0) rfl))) (ai3 0 1 2 rfl rfl rfl) hw) (cW (js:=[1,0]) (R:=[D8,ob u1,ob v1,D1,[pb2],ob pv2_1]) E3 rfl rfl (fun w1 hw ap hl=>og N (bx hw ap hl) s6 p0 p4 x9.Ids p5 k10 (ph0_0.y (hw.uo ap)) (ph0_1.y (hw.uo ap)) (ph0_2.y (hw.uo ap)) (ph4_0.y (hw.uo ap)) (h11.x (Dj.sub (Dj.sub (ap.q 0 rfl) (fun k h=>hs5 k h)) (fun k h=>hs6 k (List.mem_append.2 (.inl h)))))  hx10)) rfl ?_)
     rintro v9 Φ_7 F10 ⟨ap2,fr4,v10,D14,rfl,rfl,h13⟩
     replace k9:=k9.fr fr4 (ap2.q 5 rfl) (ap2.q 3 rfl)
     replace k2:=k2.fr fr4 (ap2.q 2 rfl) (ap2.q 0 rfl)
     replace k3:=k3.fr fr4 (ap2.q 1 rfl) (Dj.sub (ap2.q 0 rfl) i1)
     replace k11:=fr4 _ _ ((ap2.q 4 rfl) _ (by simp)) k11
     have kf1:=(Kf.id (F:=(ob v1++D8)):Kf Φ_6 _ _).st fr4 (Dj.app (ap2.q 2 rfl) (ap2.q 0 rfl))
     refine ma 15 rfl (by kernel_rfl) (kn kf1 (ai3 0 1 2 rfl rfl rfl)) rfl<|WM.nil (by kernel_rfl)<|att 6 [] rfl ?_
     exact lb [1,0,0,0,0,0,0,0] [0,0,0] (ih4 (_,_,_,_,_) ⟨h,k2,k3,h13,k11,k9⟩)
    refine xt rfl<|sq<|WT.draw mixed (by kernel_rfl) (fun _ h=>h.drew)<|qq (fo rfl) rfl<|qq (dG rfl) rfl<|qq (ax o8 rfl) rfl<|qq (aM Cw rfl (fun w1 hw=>((jl k11).of_eq 0 1 rfl rfl:rg _ _ _ [pv2_0]).rangeAt hw.fro)) rfl<|aqq 3 [0,32] rfl ?_
    obtain ⟨x11,hx11,h⟩:=bs h
    obtain ⟨cs9,F11,-,g7,hb9,hs7,r10⟩:=ph1_0.el (a7 hx11).2.2
    obtain ⟨rfl,-⟩:=r10
    refine qq (a8 bD rfl rfl ph1_0 hx11) rfl<|qq (aM rU rfl (fun w1 hw=>(g7.of_eq 0 1 rfl rfl:rg _ _ _ [iV x11]).rangeAt hw.in0)) rfl ?_
    obtain ⟨x12,hx12,h⟩:=bs h
    obtain ⟨cs10,F12,-,g8,hb10,hs8,r11⟩:=ph2_0.el (a7 hx12).2.2
    obtain ⟨v11,G3,rfl,hq1,h14⟩:=r11
    obtain rfl:=hq1.symm
    refine qq (a8 pA rfl rfl ph2_0 hx12) rfl<|qq (ax m4 rfl) rfl<|qq (aM nR rfl (fun w1 hw=>(g8.of_eq 0 1 rfl rfl:rg _ _ _ [v11]).rangeAt hw.in0)) rfl<|aqt 8 [] rfl ?_
    refine lin (σ:=Hp × (List aa) × Value × List Nat × Int) (fun s=>[(2,pQ pb2),(5,iV p5),(7,pv7),(8,pQ b_1),(9,pQ b_2),(12,pQ b_3),(16,v1),(17,iV (wz ((x1.Levels.length:Int) - 1))),(18,u1),(19,iV s3),(20,s.2.2.1),(23,v11),(24,iV s.2.2.2.2)]) (fun s=>St w0 s.1 [(b_3,.cells #[pv4_0,iV p4.Next] 47 (0,0)),(b_2,.cells #[pv1_0,pv1_1] 121 (0,0)),(b_1,.cells #[.string p0.Name,iV p0.Sal,pv0_0,pv0_1,pv0_2] 109 (0,0))] [s.2.2.2.1,ob s.2.2.1,D8,ob u1,ob v1,D1,[pb2],ob pv2_1]) (fun m s=>dd N p0 p4 x1 s1 s2 s3 (aT N p0 p1 p2 p3 p4 p5 p7 x1 n1) x12 m s.2.1 s.2.2.2.2=some r∧(OSl aN 76 1 s.1 D8 v1 s1)∧(OSl bC 136 2 s.1 D9 u1 s2)∧(OSl aL 136 2 s.1 s.2.2.2.1 s.2.2.1 s.2.1)∧(s.1 pb2=some (.cells #[pv2_0,pv2_1] 43 (0,0)))∧(HSl bd 72 1 s.1 D1 pv2_1 p2.Rules p3.toNat [v1])) (Φ_6,s6,u3,D12,0) N ⟨h,k2,k3,k10,k11,k9⟩ (sx [0,0,0,0,0,0,0,0] [0,0,0]) (fun n5 ih5 s hm=>?_)
    obtain ⟨Φ_8,s8,u4,D15,s9⟩:=s
    obtain ⟨h,k2,k3,k13,k14,k12⟩:=hm
    dsimp only at h k2 k3 k13 k14 k12 ⊢
    unfold dd at h
    refine atr 5 [] rfl<|lno k3 rfl<|la rfl<|en ?_
    refine ch h rfl ?_ ?_ <;> intro h
    ·refine att 8 [] rfl ?_
     refine lin (σ:=Hp × (List aa) × Value × List Nat × Int) (fun s=>[(2,pQ pb2),(5,iV p5),(7,pv7),(8,pQ b_1),(9,pQ b_2),(12,pQ b_3),(16,v1),(17,iV (wz ((x1.Levels.length:Int) - 1))),(18,u1),(19,iV s3),(20,s.2.2.1),(23,v11),(24,iV s9),(25,iV s.2.2.2.2)]) (fun s=>St w0 s.1 [(b_3,.cells #[pv4_0,iV p4.Next] 47 (0,0)),(b_2,.cells #[pv1_0,pv1_1] 121 (0,0)),(b_1,.cells #[.string p0.Name,iV p0.Sal,pv0_0,pv0_1,pv0_2] 109 (0,0))] [s.2.2.2.1,ob s.2.2.1,D8,ob u1,ob v1,D1,[pb2],ob pv2_1]) (fun m s=>ed N p0 p4 s2 x12 s9 (dd N p0 p4 x1 s1 s2 s3 (aT N p0 p1 p2 p3 p4 p5 p7 x1 n1) x12 n5) m s.2.1 s.2.2.2.2=some r∧(OSl aN 76 1 s.1 D8 v1 s1)∧(OSl bC 136 2 s.1 D9 u1 s2)∧(OSl aL 136 2 s.1 s.2.2.2.1 s.2.2.1 s.2.1)∧(s.1 pb2=some (.cells #[pv2_0,pv2_1] 43 (0,0)))∧(HSl bd 72 1 s.1 D1 pv2_1 p2.Rules p3.toNat [v1])) (Φ_8,s8,u4,D15,0) N ⟨h,k2,k3,k13,k14,k12⟩ (sx [0,0,0,0,0,0,0,0] [0,0,0]) (fun n6 ih6 s hm=>?_)
     obtain ⟨Φ_9,s10,u5,D16,s11⟩:=s
     obtain ⟨h,k2,k3,k16,k17,k15⟩:=hm
     dsimp only at h k2 k3 k16 k17 k15 ⊢
     unfold ed at h
     refine atr 5 [] rfl<|lnr h14 rfl<|la rfl<|en ?_
     refine ch h rfl ?_ ?_ <;> intro h
     ·refine att 3 [] rfl<|WT.mix (Kn w0 Φ_9 (ob u1) [(b_3,.cells #[pv4_0,iV p4.Next] 47 (0,0)),(b_2,.cells #[pv1_0,pv1_1] 121 (0,0)),(b_1,.cells #[.string p0.Name,iV p0.Sal,pv0_0,pv0_1,pv0_2] 109 (0,0))]) (fun _=>true) mixed (fun _ h=>h.drew)<|ma 0 rfl (by kernel_rfl) (kn Kf.id (ai3 0 1 2 rfl rfl rfl)) rfl<|mq 1 rfl (by kernel_rfl) (kn Kf.id (ai3 0 1 2 rfl rfl rfl)) (aq mQ rfl (fun w1 hw=>hw.rgO (i:=2) rfl 0 5 [.string p0.Name,iV p0.Sal,pv0_0,pv0_1,pv0_2] rfl) rfl) rfl ?_
      refine mq 2 rfl (by kernel_rfl) (kn Kf.id (ai3 0 1 2 rfl rfl rfl)) (aq tp rfl (fun w1 hw=>hw.rgO (i:=0) rfl 0 2 [pv4_0,iV p4.Next] rfl) rfl) rfl<|ma 3 rfl (by kernel_rfl) (kn Kf.id (ai3 0 1 2 rfl rfl rfl)) rfl<|ma 4 rfl (by kernel_rfl) (kn Kf.id (ai3 0 1 2 rfl rfl rfl)) rfl ?_
      obtain ⟨x13,hx13,h⟩:=bs h
      obtain ⟨cs11,F13,-,g9,hb11,hs9,r12⟩:=k3.elS (a7 hx13).2.2
      obtain ⟨v12,G4,v13,G5,rfl,rfl,h15,h16⟩:=r12
      refine mq 5 rfl (by kernel_rfl) (kn Kf.id (ai3 0 1 2 rfl rfl rfl)) (a8 fj rfl rfl k3.rsl hx13) rfl<|mq 6 rfl (by kernel_rfl) (kn Kf.id (ai3 0 1 2 rfl rfl rfl)) (ax nE rfl) rfl<|mq 7 rfl (by kernel_rfl) (kn Kf.id (ai3 0 1 2 rfl rfl rfl)) (aM nR rfl (fun w1 hw=>hw.rg hb11 (g9.of_eq 0 1 rfl rfl:rg _ _ _ [v12]))) rfl<|ma 8 rfl (by kernel_rfl) (kn Kf.id (ai3 0 1 2 rfl rfl rfl)) rfl<|ma 9 rfl (by kernel_rfl) (kn Kf.id (ai3 0 1 2 rfl rfl rfl)) rfl ?_
      obtain ⟨x14,hx14,h⟩:=bs h
      obtain ⟨cs12,F14,-,g10,hb12,hs10,r13⟩:=h14.el (a7 hx14).2.2
      obtain ⟨rfl,-⟩:=r13
      refine mq 10 rfl (by kernel_rfl) (kn Kf.id (ai3 0 1 2 rfl rfl rfl)) (a8 bD rfl rfl h14 hx14) rfl<|mq 11 rfl (by kernel_rfl) (kn Kf.id (ai3 0 1 2 rfl rfl rfl)) (aM rU rfl (fun w1 hw=>(g10.of_eq 0 1 rfl rfl:rg _ _ _ [iV x14]).rangeAt hw.1)) rfl ?_
      obtain ⟨x15,hx15,h⟩:=bs h
      refine WM.one 12 (by kernel_rfl) (mc rfl (fun _ v Φx D w1 hq hw=>Kn.of (Kf.id.st hq.2.1 (hq.1.r (i:=1) rfl)) (ai3 0 1 2 rfl rfl rfl) hw) (cW (js:=[1,0]) (R:=[D8,ob u1,ob v1,D1,[pb2],ob pv2_1]) E3 rfl rfl (fun w1 hw ap hl=>og N (bx hw ap hl) s10 p0 p4 x13.Ids x14 k16 (ph0_0.y (hw.uo ap)) (ph0_1.y (hw.uo ap)) (ph0_2.y (hw.uo ap)) (ph4_0.y (hw.uo ap)) (h15.x (Dj.sub (ap.q 0 rfl) (fun k h=>i1 k (hs9 k (List.mem_append.2 (.inl h))))))  hx15)) rfl ?_)
      rintro v14 Φ_10 F15 ⟨ap3,fr5,v15,D17,rfl,rfl,h17⟩
      replace k15:=k15.fr fr5 (ap3.q 5 rfl) (ap3.q 3 rfl)
      replace k2:=k2.fr fr5 (ap3.q 2 rfl) (ap3.q 0 rfl)
      replace k3:=k3.fr fr5 (ap3.q 1 rfl) (Dj.sub (ap3.q 0 rfl) i1)
      replace k17:=fr5 _ _ ((ap3.q 4 rfl) _ (by simp)) k17
      have kf2:=(Kf.id (F:=(ob u1)):Kf Φ_9 _ _).st fr5 (ap3.q 1 rfl)
      refine ma 13 rfl (by kernel_rfl) (kn kf2 (ai3 0 1 2 rfl rfl rfl)) rfl<|WM.nil (by kernel_rfl)<|att 6 [] rfl ?_
      exact lb [1,0,0,0,0,0,0,0] [0,0,0] (ih6 (_,_,_,_,_) ⟨h,k2,k3,h17,k17,k15⟩)
     refine att 7 [] rfl ?_
     exact lb [0,0,0,0,0,0,0,0] [0,0,0] (ih5 (_,_,_,_,_) ⟨h,k2,k3,k16,k17,k15⟩)
    refine att 7 [] rfl ?_
    refine lin (σ:=Hp × (List aa) × List Nat × Int) (fun s=>[(2,pQ pb2),(5,iV p5),(7,pv7),(8,pQ b_1),(9,pQ b_2),(12,pQ b_3),(16,v1),(17,iV (wz ((x1.Levels.length:Int) - 1))),(19,iV s3),(20,u4),(26,iV s.2.2.2)]) (fun s=>St w0 s.1 [(b_3,.cells #[pv4_0,iV p4.Next] 47 (0,0)),(b_2,.cells #[pv1_0,pv1_1] 121 (0,0)),(b_1,.cells #[.string p0.Name,iV p0.Sal,pv0_0,pv0_1,pv0_2] 109 (0,0))] [s.2.2.1,ob u4,D8,ob v1,D1,[pb2],ob pv2_1]) (fun m s=>bp N p0 p4 x1 s1 s3 (aT N p0 p1 p2 p3 p4 p5 p7 x1 n1) m s.2.1 s.2.2.2=some r∧(OSl aN 76 1 s.1 D8 v1 s1)∧(OSl aL 136 2 s.1 s.2.2.1 u4 s.2.1)∧(s.1 pb2=some (.cells #[pv2_0,pv2_1] 43 (0,0)))∧(HSl bd 72 1 s.1 D1 pv2_1 p2.Rules p3.toNat [v1])) (Φ_8,s8,D15,0) N ⟨h,k2,k13,k14,k12⟩ (sx [0,0,0,1,1,1,1] [0,0,0]) (fun n7 ih7 s hm=>?_)
    obtain ⟨Φ_11,s12,D18,s13⟩:=s
    obtain ⟨h,k2,k19,k20,k18⟩:=hm
    dsimp only at h k2 k19 k20 k18 ⊢
    unfold bp at h
    refine atr 5 [] rfl<|lno k19 rfl<|arr 2 [] rfl ?_
    obtain ⟨b3,hb_3,h⟩:=bs h
    refine WL.cutN 4 [(158,.bool b3),(2,pQ pb2),(5,iV p5),(7,pv7),(8,pQ b_1),(9,pQ b_2),(12,pQ b_3),(16,v1),(17,iV (wz ((x1.Levels.length:Int) - 1))),(19,iV s3),(20,u4),(26,iV s13)] ?_ (fun K=>?_)
    rotate_left
    ·refine sp 154 hb_3 rfl (fun hb_3=>?_) fun hb_3=>?_
     ·refine arr 4 [] rfl ?_
      cases hb_3
      exact ku K
     ·refine arr 4 [] rfl ?_
      cases hb_3
      exact ku K
    refine en ?_
    refine ch h rfl ?_ ?_ <;> intro h
    ·refine att 3 [] rfl ?_
     obtain ⟨x16,hx16,h⟩:=bs h
     obtain ⟨cs13,F16,D19,h18,r14,kf3,sp4⟩:=k19.focus hx16
     obtain ⟨v16,v17,rfl,rfl,h19,h20⟩:=r14
     refine wtL [ob v16,ob v17,D19,ob u4,D8,ob v1,D1,[pb2],ob pv2_1] (sre [0] [ob v16,ob v17,D19] rfl (by simpa [List.append_assoc] using sp4))<|WT.mix (Kn w0 Φ_11 (ob u4) [(b_3,.cells #[pv4_0,iV p4.Next] 47 (0,0)),(b_2,.cells #[pv1_0,pv1_1] 121 (0,0)),(b_1,.cells #[.string p0.Name,iV p0.Sal,pv0_0,pv0_1,pv0_2] 109 (0,0))]) (fun i=>match i with | 10=>false | _=>true) mixed (fun _ h=>h.drew)<|ma 0 rfl (by kernel_rfl) (kn Kf.id (ai3 0 1 2 rfl rfl rfl)) rfl<|ma 1 rfl (by kernel_rfl) (kn Kf.id (ai3 0 1 2 rfl rfl rfl)) rfl ?_
     refine mq 2 rfl (by kernel_rfl) (kn Kf.id (ai3 0 1 2 rfl rfl rfl)) (aq mQ rfl (fun w1 hw=>hw.rgO (i:=2) rfl 0 5 [.string p0.Name,iV p0.Sal,pv0_0,pv0_1,pv0_2] rfl) rfl) rfl<|mq 3 rfl (by kernel_rfl) (kn Kf.id (ai3 0 1 2 rfl rfl rfl)) (aq tp rfl (fun w1 hw=>hw.rgO (i:=0) rfl 0 2 [pv4_0,iV p4.Next] rfl) rfl) rfl<|ma 4 rfl (by kernel_rfl) (kn Kf.id (ai3 0 1 2 rfl rfl rfl)) rfl<|ma 5 rfl (by kernel_rfl) (kn Kf.id (ai3 0 1 2 rfl rfl rfl)) rfl<|mq 6 rfl (by kernel_rfl) (kn Kf.id (ai3 0 1 2 rfl rfl rfl)) (cZ fj rfl rfl h18 hx16) rfl ?_
     refine mq 7 rfl (by kernel_rfl) (kn Kf.id (ai3 0 1 2 rfl rfl rfl)) (aq vv rfl (fun w1 hw=>hw.rg h18.hb (h18.rg.of_eq 0 2 rfl rfl:rg _ _ _ [v16,v17])) rfl) rfl ?_
     obtain ⟨x17,hx17,h⟩:=bs h
     refine WM.one 8 (by kernel_rfl) (mc rfl (fun _ v Φx D w1 hq hw=>Kn.of (Kf.id.st hq.2.1 (hq.1.r (i:=2) rfl)) (ai3 0 1 2 rfl rfl rfl) hw) (cW (js:=[0]) (R:=[ob v17,D19,ob u4,D8,ob v1,D1,[pb2],ob pv2_1]) Hr rfl rfl (fun w1 hw ap hl=>uQ N (bx hw ap hl) p0 p4 x16 (ph0_0.y (hw.uo ap)) (ph0_1.y (hw.uo ap)) (ph0_2.y (hw.uo ap)) (ph4_0.y (hw.uo ap)) h19 (h20.rsl.x (Dj.app (ap.q 0 rfl) dN))  hx17)) rfl ?_)
     rintro v18 Φ_12 F17 ⟨ap4,fr6,v19,v20,rfl,rfl,h21,h22⟩
     replace k18:=k18.fr fr6 (ap4.q 7 rfl) (ap4.q 5 rfl)
     replace k2:=k2.fr fr6 (ap4.q 4 rfl) (ap4.q 3 rfl)
     replace h18:=h18.fr fr6 (ap4.q 2 rfl) (ap4.q 1 rfl)
     replace h20:=h20.fr fr6 (ap4.q 0 rfl) dN
     replace k20:=fr6 _ _ ((ap4.q 6 rfl) _ (by simp)) k20
     have kf3:=(Kf.id (F:=(ob u4)):Kf Φ_11 _ _).st fr6 (ap4.q 2 rfl)
     refine mq 9 rfl (by kernel_rfl) (kn kf3 (ai3 0 1 2 rfl rfl rfl)) (cZ fj rfl rfl h18 hx16) rfl ?_
     refine WM.one 10 (by kernel_rfl) (mu rfl (fun hc=>by cases hc) (G8 (js:=[4]) (Rr:=[ob v19,ob v20,ob v17,D19,D8,ob v1,D1,[pb2],ob pv2_1]) (o:=0) (vs:=[v19,v20]) (cs':=[v19,v20]) aL.lasts pH rfl rfl rfl rfl ⟨h21.one,h22.one,trivial⟩ rfl h18 rfl rfl (fun ap=>ap.q 3 rfl)) rfl ?_)
     rintro Φ_13 D20 ⟨⟨ap5,fr7⟩,h23⟩
     replace k18:=k18.fr fr7 (ap5.q 8 rfl) (ap5.q 6 rfl)
     replace k2:=k2.fr fr7 (ap5.q 5 rfl) (ap5.q 4 rfl)
     replace h21:=h21.fr fr7 (ap5.q 0 rfl) dN
     replace h22:=h22.fr fr7 (ap5.q 1 rfl) dN
     replace k20:=fr7 _ _ ((ap5.q 7 rfl) _ (by simp)) k20
     refine WM.nil (by kernel_rfl)<|att 6 [] rfl ?_
     have r15:aL Φ_13 _ [v19,v20] x17:=⟨v19,v20,rfl,rfl,h21,h22⟩
     obtain ⟨D21,h24,sp5⟩:=h23.unfocus r15 (aL.knows _ _ _ _ r15)
     refine wtL [D21,ob u4,ob v17,D8,ob v1,D1,[pb2],ob pv2_1] (smg [1,1,2] rfl (by simpa [List.append_assoc,bW] using sp5)) ?_
     exact lb [0,0,1,1,1,1,1] [0,0,0] (ih7 (_,_,_,_) ⟨h,k2,h24,k20,k18⟩)
    refine atr 7 [] rfl ?_
    obtain ⟨x18,hx18,h⟩:=bs h
    obtain ⟨cs14,F18,D22,h25,r16,kf4,sp6⟩:=k2.focus hx18
    obtain ⟨v21,D23,rfl,rfl,h26⟩:=r16
    refine wlL [ob v21,D23,D22,D18,ob u4,ob v1,D1,[pb2],ob pv2_1] (sre [2] [ob v21,D23,D22] rfl (by simpa [List.append_assoc] using sp6))<|lih h25 hx18 rfl<|lf gk rfl rfl rfl<|lgx 0 0 h25.rg rfl<|la rfl ?_
    obtain ⟨x19,hx19,h⟩:=bs h
    have h28:=k19.gives aL.gives
    refine le' (j6 aL.lasts aL.one fj rq rfl rfl rfl rfl rfl (js:=[0]) (Rr:=[D23,D22,D18,ob u4,ob v1,D1,[pb2],ob pv2_1]) rfl h26 k19 (fun ap=>ap.q 0 rfl) (fun ap=>ap.q 2 rfl) hx19) rfl ?_
    rintro v22 Φ_14 D24 ⟨⟨ap6,fr8⟩,h27⟩
    replace k18:=k18.fr fr8 (ap6.q 7 rfl) (ap6.q 5 rfl)
    replace h25:=h25.fr fr8 (ap6.q 4 rfl) (ap6.q 1 rfl)
    replace h28:=h28.fr fr8 (ap6.q 3 rfl) (ap6.q 2 rfl)
    replace k20:=fr8 _ _ ((ap6.q 6 rfl) _ (by simp)) k20
    refine wlL [(D23++D18),ob v22,D22,ob u4,ob v1,D1,[pb2],ob pv2_1] (smg [1,2] rfl (SP.eq (by simp)))<|lih h25 hx18 rfl<|lf gk rfl rfl rfl<|lu (us [4] [(D23++D18),ob v22,D22,ob u4,D1,[pb2],ob pv2_1] 0 aN.lasts Gr rfl rfl h27.one rfl h25 rfl (fun ap=>ap.q 2 rfl)) rfl ?_
    rintro Φ_15 D25 ⟨⟨ap7,fr9⟩,h29⟩
    replace k18:=k18.fr fr9 (ap7.q 6 rfl) (ap7.q 4 rfl)
    replace h27:=h27.fr fr9 (ap7.q 1 rfl) (ap7.q 0 rfl)
    replace h28:=h28.fr fr9 (ap7.q 3 rfl) (Dj.sub (ap7.q 0 rfl) (fun k hk=>List.mem_append.2 (.inr hk)))
    replace k20:=fr9 _ _ ((ap7.q 5 rfl) _ (by simp)) k20
    refine art 11 [] rfl ?_
    have r17:aN Φ_15 _ [v22] (⟨x19⟩:ab):=⟨v22,(D23++D18),rfl,rfl,h27⟩
    obtain ⟨D26,h30,sp7,mF1,mD1⟩:=h29.unfocusM r17 (aN.knows _ _ _ _ r17)
    refine wtL [D26,ob v1,ob u4,D1,[pb2],ob pv2_1] (smg [2,1,1] rfl (by simpa [List.append_assoc,bW] using sp7)) ?_
    exact lb [0,1,0,0,0,0] [0,0,0] (ih1 (_,_,_,_,_,_,_) ⟨h,h30,h28,(fun k hk=>((fun k hk=>(fun k hk=>mF1 k (List.mem_append.2 (.inr hk))) k ((fun k hk=>List.mem_append.2 (.inr hk)) k hk)) k hk)),k20,k18⟩)
   refine ch h rfl ?_ ?_ <;> intro h
   ·refine atr 4 [] rfl ?_
    obtain ⟨x20,hx20,h⟩:=bs h
    obtain ⟨cs15,F19,-,g11,hb15,hs11,r18⟩:=k2.elS (a7 hx20).2.2
    obtain ⟨v23,D27,rfl,rfl,h31⟩:=r18
    have h32:=h31.rslG aL.gives
    refine lio k2 hx20 rfl<|lf gk rfl rfl rfl<|lgx 0 0 g11 rfl<|lnr h32 rfl<|la rfl<|lno k3 rfl<|art 3 [] rfl ?_
    exact wo [0,0,0,0,0,0,0,0] [0,0,0] (K _ ⟨h,k5⟩)
   refine WT.skip ?_
   exact wo [0,0,0,0,0,0,0,0] [0,0,0] (K _ ⟨h,k5⟩)
  refine ch h rfl ?_ ?_ <;> intro h
  ·refine atr 4 [69,2] rfl<|le' (kD (R:=RI .i64) RI.lasts bD pb rfl rfl) rfl ?_
   rintro v24 Φ_16 D28 ⟨fr10,h33⟩
   replace k1:=k1.f0 fr10
   replace k2:=k2.f0 fr10
   replace k3:=k3.f0 fr10
   replace h8:=h8.f0 fr10
   replace k4:=fr10 _ _ (by simp) k4
   refine la rfl<|kcb [2,1] h rfl rfl rfl rfl (fun b ap z q=>og N b ([]:List aa) p0 p4 ([]:List Int) p5 h8 (ph0_0.y z) (ph0_1.y z) (ph0_2.y z) (ph4_0.y z) (h33.rsl.x (Dj.app (ap.q 0 rfl) dN)) q) ?_
   rintro x21 h v25 Φ_17 F20 ⟨ap8,fr11,v26,D29,rfl,rfl,h34⟩
   replace k1:=k1.fr fr11 (ap8.q 6 rfl) (ap8.q 4 rfl)
   replace k2:=k2.fr fr11 (ap8.q 3 rfl) (ap8.q 1 rfl)
   replace k3:=k3.fr fr11 (ap8.q 2 rfl) (Dj.sub (ap8.q 1 rfl) i1)
   replace k4:=fr11 _ _ ((ap8.q 5 rfl) _ (by simp)) k4
   refine la rfl<|en ?_
   exact wo [1,0,1,1,1,1,1,1] [0,0,0] (K (_,_,_,_) ⟨h,k2,k3,h34,k4,k1⟩)
  refine WT.skip ?_
  exact wo [0,0,0,0,0,0,0,0] [0,0,0] (K (_,_,_,_) ⟨h,k2,k3,h8,k4,k1⟩)
 refine xt rfl ?_
 have r19:bd Φ_3 _ [v1] (⟨s1⟩:aF):=⟨v1,D8,rfl,rfl,k2⟩
 obtain ⟨D30,h35,sp8,mF2,mD2⟩:=k1.unfocusM r19 (bd.knows _ _ _ _ r19)
 refine wtL [D30,ob u1,[pb2],ob pv2_1] (smg [2,0,1] rfl (by simpa [List.append_assoc,bW] using sp8)) ?_
 refine WT.fin hF aG.none (fun w1 hw=>?_)
 cases h
 refine bK (js:=[2,2,0]) hw rfl ⟨pv2_1,D30,rfl,rfl,rfl,h35,k4⟩
theorem xS (w0:af Ψ Φ [[pb2],ob pv2_0,pD2_0,ob pv2_1,pD2_1].flatten) (p0:bh) (p1:bB) (p2:aJ) (p3:ae) (p4:Int) (ph0_0:RSl bV 5 Ψ pG0_0 pv0_0 p0.Rules) (ph1_0:RSl bY 4 Ψ pG1_0 pv1_0 p1.Alphas) (ph1_1:RSl er 2 Ψ pG1_1 pv1_1 p1.Chains) (ph2_0:OSl bv 69 1 Φ pD2_0 pv2_0 p2.Alphas) (ph2_1:OSl bd 72 1 Φ pD2_1 pv2_1 p2.Rules) (pp2:Φ pb2=some (.cells #[pv2_0,pv2_1] 43 (0,0))) (ph3_0:RSl bn 3 Ψ pG3_0 pv3_0 p3.Items) {r:aJ} (h:oS N p0 p1 p2 p3 p4=some r) :
  Calls prog 51 [.agg [.string p0.Name,pv0_0].toArray,.agg [pv1_0,pv1_1].toArray,pQ pb2,.agg [pv3_0,iV p3.Next].toArray,iV p4].toArray w0.w (aR Φ w0.w [[pb2],ob pv2_0,pD2_0,ob pv2_1,pD2_1].flatten (fun Φ' Fs v=>∃ (so_0_0:Value) (Do_0_0:List Nat) (so_0_1:Value) (Do_0_1:List Nat),v = .tuple #[]∧Fs=[[pb2],ob so_0_0,Do_0_0,ob so_0_1,Do_0_1]∧OSl bv 69 1 Φ' Do_0_0 so_0_0 r.Alphas∧OSl bd 72 1 Φ' Do_0_1 so_0_1 r.Rules∧Φ' pb2=some (.cells #[so_0_0,so_0_1] 43 (0,0)))):=by
 refine eL func51 rfl ntmps51 rfl (L:=[[pb2],ob pv2_0,pD2_0,ob pv2_1,pD2_1]) w0 (fun hF=>?_)
 unfold oS at h
 refine sr<|lbx rfl fun b_1=>lbx rfl fun b_2=>lbx rfl fun b_3=>arr 5 [2] rfl<|kab h rfl rfl rfl (fun b z q=>pR N b p3 p4 (ph3_0.y z) q) ?_
 rintro x1 h v1 Φ_1 F1 ⟨ap1,fr1,v2,rfl,rfl,h1⟩
 replace ph2_0:=ph2_0.fr fr1 (ap1.q 1 rfl) (ap1.q 2 rfl)
 replace ph2_1:=ph2_1.fr fr1 (ap1.q 3 rfl) (ap1.q 4 rfl)
 replace pp2:=fr1 _ _ ((ap1.q 0 rfl) _ (by simp)) pp2
 refine arr 3 [] rfl<|lnz jD rfl fun b_4=>soN 0 ky rfl ⟨rfl,h1.one,trivial⟩ rfl ?_
 refine arr 4 [] rfl<|le' (kD RB.lasts DC KW rfl rfl) rfl ?_
 rintro v3 Φ_2 D1 ⟨fr2,h2⟩
 replace ph2_0:=ph2_0.f0 fr2
 replace ph2_1:=ph2_1.f0 fr2
 replace h1:=h1.f0 fr2
 replace pp2:=fr2 _ _ (by simp) pp2
 refine art 8 [] rfl ?_
 refine lin (σ:=Hp × (List aQ) × List Nat × (List Bool) × Value × Int) (fun s=>[(2,pQ pb2),(4,iV p4),(5,pQ b_1),(6,pQ b_2),(8,pQ b_3),(10,pQ b_4),(12,s.2.2.2.2.1),(13,iV s.2.2.2.2.2)]) (fun s=>St w0 s.1 [(b_4,.cells #[.string x1.1.Kind,v2] 115 (0,0)),(b_3,.cells #[pv3_0,iV p3.Next] 47 (0,0)),(b_2,.cells #[pv1_0,pv1_1] 62 (0,0)),(b_1,.cells #[.string p0.Name,pv0_0] 38 (0,0))] [ob s.2.2.2.2.1,ob v2,[pb2],ob pv2_0,s.2.2.1,ob pv2_1,pD2_1]) (fun m s=>dW N p0 p1 p2 p3 p4 x1 m s.2.1 s.2.2.2.1 s.2.2.2.2.2=some r∧(OSl bv 69 1 s.1 s.2.2.1 pv2_0 s.2.1)∧(OSl bd 72 1 s.1 pD2_1 pv2_1 p2.Rules)∧(OSl aD 167 3 s.1 [] v2 x1.1.Fields)∧(OSl RB 4 1 s.1 [] s.2.2.2.2.1 s.2.2.2.1)∧(s.1 pb2=some (.cells #[pv2_0,pv2_1] 43 (0,0)))) (Φ_2,p2.Alphas,pD2_0,([]:List Bool),v3,0) N ⟨h,ph2_0,ph2_1,h1,h2,pp2⟩ (sx [0,0,0,0,0,0,0] [0,0,0,0]) (fun n1 ih1 s hm=>?_)
 obtain ⟨Φ_3,s1,D2,s2,u1,s3⟩:=s
 obtain ⟨h,k1,ph2_1,h1,k2,k3⟩:=hm
 dsimp only at h k1 ph2_1 h1 k2 k3 ⊢
 unfold dW at h
 refine atr 6 [0,64] rfl<|lnr ph1_0 rfl<|la rfl<|en ?_
 refine ch h rfl ?_ ?_ <;> intro h
 ·refine att 4 [] rfl<|WT.draw mixed (by kernel_rfl) (fun _ h=>h.drew)<|aqq 3 [0,64] rfl ?_
  obtain ⟨x2,hx2,h⟩:=bs h
  obtain ⟨cs1,F2,-,g1,hb1,hs1,r1⟩:=ph1_0.el (a7 hx2).2.2
  obtain ⟨v4,G1,v5,G2,rfl,rfl,h3,h4⟩:=r1
  refine qq (a8 zM rfl rfl ph1_0 hx2) rfl<|qq (aq sX rfl (fun w1 hw=>(g1.of_eq 0 4 rfl rfl:rg _ _ _ [.string x2.Kind,iV x2.N,v4,v5]).rangeAt hw.in0) rfl) rfl<|qq (aq mV rfl (fun w1 hw=>hw.rgO (i:=0) rfl 0 2 [.string x1.1.Kind,v2] rfl) rfl) rfl ?_
  obtain ⟨x3,hx3,h⟩:=bs h
  refine qp (bH J4 rfl (fun w1 hw=>zk N (ba hw.fro) x2 x1.1 (h3.y hw.up) (h4.y hw.up) h1.rsl hx3)) rfl<|aqr 6 [] rfl ?_
  have rc2:RC RB 1 Φ_3 ([[]]:List (List Nat)) [.bool x3] ([x3]:List Bool):=RC.cons (c:=[.bool x3]) (cells:=[]) ⟨rfl,rfl⟩ rfl (RC.nil _ _ _)
  refine le' (cU (vs:=[(0,.bool x3)]) (C:=#[.bool x3]) RB.lasts DC KW rfl rfl rfl rfl (aK Ir (ai (C':=[.bool x3]) rfl rfl rfl rfl rfl (au))) rfl rc2 rfl (by simpa using Kw.nil)) rfl ?_
  rintro v6 Φ_4 D3 ⟨fr3,h5⟩
  replace h5:OSl RB 4 1 Φ_4 [] v6 ([x3]:List Bool):=by simpa using h5
  replace k1:=k1.f0 fr3
  replace ph2_1:=ph2_1.f0 fr3
  replace h1:=h1.f0 fr3
  replace k2:=k2.f0 fr3
  replace k3:=fr3 _ _ (by simp) k3
  obtain ⟨x4,hx4,h⟩:=bs h
  refine le' (dE RB.lasts RB.one RB.flat DC LI rfl rfl rfl rfl rfl (js:=[1]) (Rr:=[ob v6,ob v2,[pb2],ob pv2_0,D2,ob pv2_1,pD2_1]) rfl k2 h5.rsl hx4) rfl ?_
  rintro v7 Φ_5 D4 ⟨⟨ap2,fr4⟩,h6⟩
  replace k1:=k1.fr fr4 (ap2.q 3 rfl) (ap2.q 4 rfl)
  replace ph2_1:=ph2_1.fr fr4 (ap2.q 5 rfl) (ap2.q 6 rfl)
  replace h1:=h1.fr fr4 (ap2.q 1 rfl) dN
  replace k3:=fr4 _ _ ((ap2.q 2 rfl) _ (by simp)) k3
  refine art 6 [] rfl ?_
  refine ch h rfl ?_ ?_ <;> intro h
  ·obtain ⟨x5,hx5,h⟩:=bs h
   obtain ⟨cs2,F3,D5,h7,r2,kf1,sp1⟩:=k1.focus hx5
   obtain ⟨v8,rfl,rfl,h8⟩:=r2
   refine wtL [ob v8,D5,ob v7,ob v6,ob v2,[pb2],ob pv2_0,ob pv2_1,pD2_1] (sre [5] [ob v8,D5] rfl (by simpa [List.append_assoc] using sp1))<|WT.mix (Kn w0 Φ_5 ([pb2]++ob pv2_0) [(b_4,.cells #[.string x1.1.Kind,v2] 115 (0,0)),(b_3,.cells #[pv3_0,iV p3.Next] 47 (0,0)),(b_2,.cells #[pv1_0,pv1_1] 62 (0,0)),(b_1,.cells #[.string p0.Name,pv0_0] 38 (0,0))]) (fun i=>match i with | 18=>false | _=>true) mixed (fun _ h=>h.drew)<|ma 0 rfl (by kernel_rfl) (kn Kf.id (am [0,1,2,3] rfl)) rfl ?_
   refine mq 1 rfl (by kernel_rfl) (kn Kf.id (am [0,1,2,3] rfl)) (dG rfl) rfl<|mq 2 rfl (by kernel_rfl) (kn Kf.id (am [0,1,2,3] rfl)) (ax o8 rfl) rfl<|mq 3 rfl (by kernel_rfl) (kn Kf.id (am [0,1,2,3] rfl)) (aM Cw rfl (fun w1 hw=>hw.rg (List.mem_append.2 (.inl (by simp))) ((jl k3).of_eq 0 1 rfl rfl:rg _ _ _ [pv2_0]))) rfl<|ma 4 rfl (by kernel_rfl) (kn Kf.id (am [0,1,2,3] rfl)) rfl<|ma 5 rfl (by kernel_rfl) (kn Kf.id (am [0,1,2,3] rfl)) rfl<|mq 6 rfl (by kernel_rfl) (kn Kf.id (am [0,1,2,3] rfl)) (dG rfl) rfl ?_
   refine mq 7 rfl (by kernel_rfl) (kn Kf.id (am [0,1,2,3] rfl)) (ax o8 rfl) rfl<|mq 8 rfl (by kernel_rfl) (kn Kf.id (am [0,1,2,3] rfl)) (aM Cw rfl (fun w1 hw=>hw.rg (List.mem_append.2 (.inl (by simp))) ((jl k3).of_eq 0 1 rfl rfl:rg _ _ _ [pv2_0]))) rfl<|ma 9 rfl (by kernel_rfl) (kn Kf.id (am [0,1,2,3] rfl)) rfl<|mq 10 rfl (by kernel_rfl) (kn Kf.id (am [0,1,2,3] rfl)) (cZ pA rfl rfl h7 hx5) rfl<|mq 11 rfl (by kernel_rfl) (kn Kf.id (am [0,1,2,3] rfl)) (ax m4 rfl) rfl ?_
   refine mq 12 rfl (by kernel_rfl) (kn Kf.id (am [0,1,2,3] rfl)) (aM nR rfl (fun w1 hw=>hw.rg (List.mem_append.2 (.inr h7.hb)) (h7.rg.of_eq 0 1 rfl rfl:rg _ _ _ [v8]))) rfl<|ma 13 rfl (by kernel_rfl) (kn Kf.id (am [0,1,2,3] rfl)) rfl ?_
   have rc3:RC (RI .i64) 1 Φ_5 ([[]]:List (List Nat)) [iV p4] ([p4]:List Int):=RC.cons (c:=[iV p4]) (cells:=[]) ⟨rfl,rfl⟩ rfl (RC.nil _ _ _)
   refine WM.one 14 (by kernel_rfl) (me rfl (fun _ v Φx D w1 hq hw=>Kn.of (Kf.id.se hq.1) (am [0,1,2,3] rfl) hw) (cU (vs:=[(0,iV p4)]) (C:=#[iV p4]) RI.lasts bD pb rfl rfl rfl rfl (aK kv (ai (C':=[iV p4]) rfl rfl rfl rfl rfl (au))) rfl rc3 rfl (by simpa using Kw.nil)) rfl ?_)
   rintro v9 Φ_6 D6 ⟨fr5,h9⟩
   replace h9:OSl (RI .i64) 3 1 Φ_6 [] v9 ([p4]:List Int):=by simpa using h9
   replace h7:=h7.f0 fr5
   replace ph2_1:=ph2_1.f0 fr5
   replace h1:=h1.f0 fr5
   replace h6:=h6.f0 fr5
   replace h8:=h8.f0 fr5
   replace k3:=fr5 _ _ (by simp) k3
   obtain ⟨x6,hx6,h⟩:=bs h
   have kf1:=(Kf.id (F:=([pb2]++ob pv2_0)):Kf Φ_5 _ _).se fr5
   refine WM.one 15 (by kernel_rfl) (me rfl (fun _ v Φx D w1 hq hw=>Kn.of (kf1.st hq.1.2 (Dj.app (hq.1.1.r (i:=5) rfl) (hq.1.1.r (i:=6) rfl))) (am [0,1,2,3] rfl) hw) (dE RI.lasts RI.one RI.flat bD tA rfl rfl rfl rfl rfl (js:=[1]) (Rr:=[ob v9,D5,ob v7,ob v6,ob v2,[pb2],ob pv2_0,ob pv2_1,pD2_1]) rfl h8 h9.rsl hx6) rfl ?_)
   rintro v10 Φ_7 D7 ⟨⟨ap3,fr6⟩,h10⟩
   replace h7:=h7.fr fr6 (ap3.q 6 rfl) (ap3.q 1 rfl)
   replace ph2_1:=ph2_1.fr fr6 (ap3.q 7 rfl) (ap3.q 8 rfl)
   replace h1:=h1.fr fr6 (ap3.q 4 rfl) dN
   replace h6:=h6.fr fr6 (ap3.q 2 rfl) dN
   replace k3:=fr6 _ _ ((ap3.q 5 rfl) _ (by simp)) k3
   have kf2:=kf1.st fr6 (Dj.app (ap3.q 5 rfl) (ap3.q 6 rfl))
   refine mqT 16 [17,18] rfl (by kernel_rfl) (kn kf2 (am [0,1,2,3] rfl)) (cZ pA rfl rfl h7 hx5) rfl<|mq 17 rfl (by kernel_rfl) (kn kf2 (am [0,1,2,3] rfl)) (ax m4 rfl) rfl ?_
   refine WM.one 18 (by kernel_rfl) (mu rfl (fun hc=>by cases hc) (us [7] [ob v10,ob v9,D5,ob v7,ob v6,ob v2,[pb2],ob pv2_1,pD2_1] 0 bv.lasts qm rfl rfl h10.one rfl h7 rfl (fun ap=>ap.q 2 rfl)) rfl ?_)
   rintro Φ_8 D8 ⟨⟨ap4,fr7⟩,h11⟩
   replace ph2_1:=ph2_1.fr fr7 (ap4.q 7 rfl) (ap4.q 8 rfl)
   replace h1:=h1.fr fr7 (ap4.q 5 rfl) dN
   replace h6:=h6.fr fr7 (ap4.q 3 rfl) dN
   replace h10:=h10.fr fr7 (ap4.q 0 rfl) dN
   replace k3:=fr7 _ _ ((ap4.q 6 rfl) _ (by simp)) k3
   refine WM.nil (by kernel_rfl)<|att 6 [] rfl ?_
   have r3:bv Φ_8 _ [v10] (⟨x6⟩:aQ):=⟨v10,rfl,rfl,h10⟩
   obtain ⟨D9,h12,sp2⟩:=h11.unfocus r3 (bv.knows _ _ _ _ r3)
   refine wtL [D9,ob pv2_0,ob v9,ob v7,ob v6,ob v2,[pb2],ob pv2_1,pD2_1] (smg [1,2] rfl (by simpa [List.append_assoc,bW] using sp2)) ?_
   exact lb [3,4,4,1,0,2,2] [0,0,0,0] (ih1 (_,_,_,_,_,_) ⟨h,h12,ph2_1,h1,h6,k3⟩)
  refine att 7 [] rfl ?_
  exact lb [0,1,1,1,1,1,1] [0,0,0,0] (ih1 (_,_,_,_,_,_) ⟨h,k1,ph2_1,h1,h6,k3⟩)
 refine att 6 [] rfl ?_
 refine lin (σ:=Hp × (List aF) × Value × List Nat × Int) (fun s=>[(2,pQ pb2),(4,iV p4),(5,pQ b_1),(6,pQ b_2),(8,pQ b_3),(10,pQ b_4),(12,u1),(15,iV s.2.2.2.2)]) (fun s=>St w0 s.1 [(b_4,.cells #[.string x1.1.Kind,v2] 115 (0,0)),(b_3,.cells #[pv3_0,iV p3.Next] 47 (0,0)),(b_2,.cells #[pv1_0,pv1_1] 62 (0,0)),(b_1,.cells #[.string p0.Name,pv0_0] 38 (0,0))] [ob u1,ob v2,[pb2],ob pv2_0,D2,ob s.2.2.1,s.2.2.2.1]) (fun m s=>eI N p0 p1 p3 p4 x1 s1 s2 m s.2.1 s.2.2.2.2=some r∧(OSl bv 69 1 s.1 D2 pv2_0 s1)∧(OSl bd 72 1 s.1 s.2.2.2.1 s.2.2.1 s.2.1)∧(OSl aD 167 3 s.1 [] v2 x1.1.Fields)∧(OSl RB 4 1 s.1 [] u1 s2)∧(s.1 pb2=some (.cells #[pv2_0,s.2.2.1] 43 (0,0)))) (Φ_3,p2.Rules,pv2_1,pD2_1,0) N ⟨h,k1,ph2_1,h1,k2,k3⟩ (sx [0,0,0,0,0,0,0] [0,0,0,0]) (fun n2 ih2 s hm=>?_)
 obtain ⟨Φ_9,s4,u2,D10,s5⟩:=s
 obtain ⟨h,k1,k4,h1,k2,k5⟩:=hm
 dsimp only at h k1 k4 h1 k2 k5 ⊢
 unfold eI at h
 refine atr 6 [1,96] rfl<|lnr ph0_0 rfl<|la rfl<|en ?_
 refine ch h rfl ?_ ?_ <;> intro h
 ·refine att 3 [] rfl<|wm [0,1,2,3] [16] rfl<|amm 9 [10,11,12,34,13,14,2,15,0,1,1,96,2] [0,1,2,3] rfl rfl ?_
  obtain ⟨x7,hx7,h⟩:=bs h
  obtain ⟨cs3,F4,-,g2,hb3,hs2,r4⟩:=ph0_0.el (a7 hx7).2.2
  obtain ⟨v11,G3,v12,G4,v13,G5,rfl,rfl,h13,h14,h15⟩:=r4
  refine mqT 3 [4,16] rfl (by kernel_rfl) (kN [0,1,2,3]) (a8 zT rfl rfl ph0_0 hx7) rfl<|mq 4 rfl (by kernel_rfl) (kN [0,1,2,3]) (aq mQ rfl (fun w1 hw=>(g2.of_eq 0 5 rfl rfl:rg _ _ _ [.string x7.Name,iV x7.Sal,v11,v12,v13]).rangeAt hw.1) rfl) rfl<|amm 3 [5,1,6,64,7] [0,1,2,3] rfl rfl ?_
  obtain ⟨x8,hx8,h⟩:=bs h
  obtain ⟨cs4,F5,-,g3,hb4,hs3,r5⟩:=ph1_1.el (a7 hx8).2.2
  obtain ⟨v14,G6,v15,G7,rfl,rfl,h16,h17⟩:=r5
  refine mqT 8 [9,16] rfl (by kernel_rfl) (kN [0,1,2,3]) (a8 Ac rfl rfl ph1_1 hx8) rfl<|mq 9 rfl (by kernel_rfl) (kN [0,1,2,3]) (aq Gj rfl (fun w1 hw=>(g3.of_eq 0 2 rfl rfl:rg _ _ _ [v14,v15]).rangeAt hw.1) rfl) rfl ?_
  obtain ⟨x9,hx9,h⟩:=bs h
  refine WM.one 16 (by kernel_rfl) (mc rfl (fun hc=>by cases hc) (cW (js:=[2,4,4]) (R:=[ob u1,ob v2,ob pv2_0,D2]) JQ rfl rfl (fun w1 hw ap hl=>wJ N (bx hw ap hl) x7 x8 (⟨s1,s4⟩:aJ) s5 p3 p4 x1.1 s2 (h13.y (hw.uo ap)) (h14.y (hw.uo ap)) (h15.y (hw.uo ap)) (h16.y (hw.uo ap)) (h17.y (hw.uo ap)) ((k1.rslG bv.gives).x (Dj.app (ap.q 2 rfl) (ap.q 3 rfl))) k4 k5 (ph3_0.y (hw.uo ap)) (h1.rsl.x (Dj.app (ap.q 1 rfl) dN)) (k2.rsl.x (Dj.app (ap.q 0 rfl) dN))  hx9)) rfl ?_)
  rintro v16 Φ_10 F6 ⟨ap5,fr8,v17,D11,rfl,rfl,e1,h18,h19⟩
  replace k1:=k1.fr fr8 (ap5.q 2 rfl) (ap5.q 3 rfl)
  replace h1:=h1.fr fr8 (ap5.q 1 rfl) dN
  replace k2:=k2.fr fr8 (ap5.q 0 rfl) dN
  refine WM.nil (by kernel_rfl)<|att 6 [] rfl ?_
  exact lb [3,3,0,2,2,0,0] [0,0,0,0] (ih2 (_,_,_,_,_) ⟨h,k1,h18,h1,k2,h19⟩)
 refine xt rfl ?_
 refine WT.fin hF aG.none (fun w1 hw=>?_)
 cases h
 refine bK (js:=[2,2,2,2,2]) hw rfl ⟨pv2_0,D2,u2,D10,rfl,rfl,k1,k4,k5⟩
end Go.Proofs.YtiljnppocjgkkaaGreat
