/- Printed by a program of ours: each Go function computes its Lean function. -/
import Derived.Test.YtinomobmcjnfjaaGreatProg
import Derived.Test.YtinomobmcjnfjaaGreatWKeptWalk6
namespace Go.Proofs.YtinomobmcjnfjaaGreat
open Eng Tryz
open Go.RowKit (Below)
set_option linter.unusedVariables false
set_option linter.unusedSimpArgs false

set_option maxRecDepth 100000
set_option maxHeartbeats 1000000
variable {Ψ Φ:Hp} {pv0_0 pv0_1 pv1_0 pv1_1 pv2_0 pv2_1 pv3_0 pv0_2 pv0 pv2 pv0_3 pv0_4 pv0_5 pv1:Value} {pG0_0 pG0_1 pG1_0 pG1_1 pG2_0 pG2_1 pG3_0 pG0_2 pG0 pG2 pG0_3 pG0_4 pG0_5 pD1 pG1 pD0:List Nat} (N:Nat)
theorem uR (w0:aw Ψ Φ []) (p0:ah) (ph0_0:RSl bh 3 Ψ pG0_0 pv0_0 p0.Items) {r:Bool} (h:lN N p0=some r) :
  CB w0 prog 46 [.agg [pv0_0,iV p0.Next].toArray] (.bool r):=by
 refine eN func46 rfl ntmps46 rfl w0 fun hF=>?_
 unfold lN at h
 refine sr<|lbx rfl fun b_1=>arr 7 [0,0] rfl<|lnr ph0_0 rfl<|arr 2 [] rfl ?_
 obtain ⟨b1,hb_1,h⟩:=bs h
 refine WL.cutN 5 [(16,.bool b1),(1,pQ b_1)] ?_ (fun K=>?_)
 rotate_left
 ·refine sp 11 hb_1 rfl (fun hb_1=>?_) fun hb_1=>?_
  ·refine arr 5 [] rfl ?_
   cases hb_1
   exact ku K
  ·refine arr 2 [1,0] rfl<|ly rfl rfl<|qc hb_1 (cw N · p0.Next 1 1000000 ·) rfl rfl rfl fun x1 hb_1=>arr 2 [] rfl ?_
   cases hb_1
   exact ku K
 refine en ?_
 refine ch h rfl ?_ ?_ <;> intro h
 ·refine att 4 [] rfl ?_
  exact rt hF h
 refine atr 6 [0,0] rfl<|lnr ph0_0 rfl<|art 3 [] rfl ?_
 refine lin (σ:=Int) (fun s=>[(1,pQ b_1),(18,pv0_0),(19,iV (p0.Items.length:Int)),(20,iV s)]) (fun s=>St w0 Φ [(b_1,.cells #[pv0_0,iV p0.Next] 37 (0,0))] []) (fun m s=>cp N p0 m s=some r) (0) N h (sx [] [0]) (fun n1 ih1 s hm=>?_)
 revert hm; revert s; intro s1 hm
 have h:cp N p0 (n1+1) s1=some r:=hm
 show WT _ _ [(1,pQ b_1),(18,pv0_0),(19,iV (p0.Items.length:Int)),(20,iV s1)] (St w0 Φ [(b_1,.cells #[pv0_0,iV p0.Next] 37 (0,0))] [])
 unfold cp at h
 refine att 5 [] rfl ?_
 refine ch h rfl ?_ ?_ <;> intro h
 ·refine atr 6 [] rfl ?_
  obtain ⟨x2,hx2,h⟩:=bs h
  obtain ⟨cs1,F1,-,g1,hb1,hs1,r1⟩:=ph0_0.el (a9 hx2).2.2
  obtain ⟨v1,G1,rfl,hq1,h1⟩:=r1
  obtain rfl:=hq1.symm
  refine lia ph0_0 hx2 rfl<|lhx 0 3 g1 rfl<|lnz sm rfl fun b_2=>la rfl<|soN 0 xZ rfl ⟨rfl,rfl,h1.one,trivial⟩ rfl ?_
  refine art 3 [] rfl<|WT.draw cc (by kernel_rfl) (fun _ h=>h.drew)<|aqq 2 [1,2] rfl ?_
  obtain ⟨x3,hx3,h⟩:=bs h
  refine qp (cQ FE rfl (fun w1 hw=>vn N (ba hw.in0) x2.F h1 hx3)) rfl<|aqq 2 [] rfl ?_
  obtain ⟨b2,hb_2,h⟩:=bs h
  refine WQ.cutN 8 [(37,.bool b2),(1,pQ b_1),(3,iV s1),(4,pQ b_2),(18,pv0_0),(19,iV (p0.Items.length:Int)),(20,iV s1)] ?_ (fun K=>?_)
  rotate_left
  ·refine WQ.split (d:=29) rfl (fun c4=>?_) (fun c4=>?_)
   ·replace hb_2:=fN hb_2 c4
    refine aqq 8 [] rfl ?_
    cases hb_2
    exact kq K
   ·replace hb_2:=fO hb_2 c4
    refine aqq 5 [0,0,1,32] rfl<|WQ.yes rfl rfl ?_
    obtain ⟨x4,hx4,hb_2⟩:=bs hb_2
    refine qp (cQ Ed rfl (fun w1 hw=>cw N (ba hw.fro) x2.Id 1 (wz (p0.Next - 1)) hx4)) rfl<|aqq 2 [] rfl ?_
    cases hb_2
    exact kq K
  refine qq (ep rfl) rfl ?_
  obtain ⟨b3,hb_3,h⟩:=bs h
  refine WQ.cutN 15 [(53,.bool b3),(1,pQ b_1),(3,iV s1),(4,pQ b_2),(18,pv0_0),(19,iV (p0.Items.length:Int)),(20,iV s1)] ?_ (fun K=>?_)
  rotate_left
  ·refine WQ.split (d:=38) rfl (fun c5=>?_) (fun c5=>?_)
   ·replace hb_3:=fN hb_3 c5
    refine aqq 15 [] rfl ?_
    cases hb_3
    exact kq K
   ·replace hb_3:=fO hb_3 c5
    refine aqq 3 [] rfl ?_
    obtain ⟨b4,hb_4,hb_3⟩:=bs hb_3
    refine WQ.cutN 11 [(52,.bool b4),(1,pQ b_1),(3,iV s1),(4,pQ b_2),(18,pv0_0),(19,iV (p0.Items.length:Int)),(20,iV s1),(38,.bool false)] ?_ (fun K=>?_)
    rotate_left
    ·refine WQ.split (d:=41) rfl (fun c6=>?_) (fun c6=>?_)
     ·replace hb_4:=fN hb_4 c6
      refine aqq 6 [0,0,0,32] rfl<|WQ.yes rfl rfl ?_
      obtain ⟨x5,hx5,hb_4⟩:=bs hb_4
      obtain ⟨cs2,F2,-,g2,hb2,hs2,r2⟩:=ph0_0.el (a9 hx5).2.2
      obtain ⟨v2,G2,rfl,hq2,h2⟩:=r2
      obtain rfl:=hq2.symm
      refine qq (ac nX rfl rfl ph0_0 hx5) rfl<|WQ.yes rfl rfl<|qq (ab pT rfl) rfl<|WQ.yes rfl rfl<|qq (au pt rfl (fun w1 hw=>(g2.of_eq 0 1 rfl rfl:rg _ _ _ [iV x5.Id]).rangeAt hw.in0)) rfl<|aqq 2 [] rfl ?_
      cases hb_4
      exact kq K
     ·replace hb_4:=fO hb_4 c6
      refine aqq 11 [] rfl ?_
      cases hb_4
      exact kq K
    refine WQ.q (nT rfl rfl) rfl rfl rfl ?_
    cases hb_3
    exact kq K
  refine WQ.nil ?_
  refine ch h rfl ?_ ?_ <;> intro h
  ·refine att 4 [] rfl ?_
   exact rt hF h
  refine atr 6 [0,32] rfl ?_
  obtain ⟨x6,hx6,h⟩:=bs h
  refine lq (GD nX rfl rfl ph0_0 hx6) rfl ?_
  obtain ⟨F3,h3,hs3⟩:=ph0_0.sub hx6
  refine lnr h3 rfl<|art 3 [] rfl ?_
  refine lin (σ:=Int) (fun s=>[(1,pQ b_1),(4,pQ b_2),(18,pv0_0),(19,iV (p0.Items.length:Int)),(20,iV s1),(57,(slc pv0_0 (0:Int).toNat s1.toNat 3)),(58,iV (x6.length:Int)),(59,iV s)]) (fun s=>St w0 Φ [(b_2,.cells #[iV x2.Id,.string x2.F.Kind,v1] 69 (0,0)),(b_1,.cells #[pv0_0,iV p0.Next] 37 (0,0))] []) (fun m s=>dB N s1 (cp N p0 n1) x2 x6 m s=some r) (0) N h (sx [] [0,0]) (fun n2 ih2 s hm=>?_)
  revert hm; revert s; intro s2 hm
  have h:dB N s1 (cp N p0 n1) x2 x6 (n2+1) s2=some r:=hm
  show WT _ _ [(1,pQ b_1),(4,pQ b_2),(18,pv0_0),(19,iV (p0.Items.length:Int)),(20,iV s1),(57,(slc pv0_0 (0:Int).toNat s1.toNat 3)),(58,iV (x6.length:Int)),(59,iV s2)] (St w0 Φ [(b_2,.cells #[iV x2.Id,.string x2.F.Kind,v1] 69 (0,0)),(b_1,.cells #[pv0_0,iV p0.Next] 37 (0,0))] [])
  unfold dB at h
  refine att 5 [] rfl ?_
  refine ch h rfl ?_ ?_ <;> intro h
  ·refine atr 5 [] rfl ?_
   obtain ⟨x7,hx7,h⟩:=bs h
   obtain ⟨cs3,F4,-,g3,hb3,hs4,r3⟩:=h3.el (a9 hx7).2.2
   obtain ⟨v3,G3,rfl,hq3,h4⟩:=r3
   obtain rfl:=hq3.symm
   refine lia h3 hx7 rfl<|lhx 0 3 g3 rfl<|lnz sm rfl fun b_3=>soN 0 xZ rfl ⟨rfl,rfl,h4.one,trivial⟩ rfl ?_
   refine arr 7 [1,34,1,2] rfl<|qd h (tz N · x2.F x7.F h1 h4 ·) rfl rfl rfl fun x8 h=>en ?_
   refine ch h rfl ?_ ?_ <;> intro h
   ·refine att 4 [] rfl ?_
    exact rt hF h
   refine att 6 [] rfl ?_
   exact lb [] [1,1] (ih2 _ h)
  refine att 6 [] rfl ?_
  exact lb [] [1] (ih1 _ h)
 refine att 5 [] rfl ?_
 exact rt hF h
theorem vj (w0:aw Ψ Φ []) (p0:aO) (p1:ax) (ph0_0:RSl bl 4 Ψ pG0_0 pv0_0 p0.Alphas) (ph0_1:RSl bV 2 Ψ pG0_1 pv0_1 p0.Chains) (ph1_0:RSl gp 1 Ψ pG1_0 pv1_0 p1.Alphas) (ph1_1:RSl jx 1 Ψ pG1_1 pv1_1 p1.Rules) {r:Bool} (h:nK N p0 p1=some r) :
  CB w0 prog 47 [.agg [pv0_0,pv0_1].toArray,.agg [pv1_0,pv1_1].toArray] (.bool r):=by
 refine eN func47 rfl ntmps47 rfl w0 fun hF=>?_
 unfold nK at h
 refine sr<|lbx rfl fun b_1=>lbx rfl fun b_2=>arr 7 [0,0] rfl<|lnr ph1_0 rfl<|arr 2 [0,32] rfl<|lnr ph0_0 rfl<|arr 2 [] rfl ?_
 obtain ⟨b1,hb_1,h⟩:=bs h
 refine WL.cutN 8 [(28,.bool b1),(2,pQ b_1),(3,pQ b_2)] ?_ (fun K=>?_)
 rotate_left
 ·refine sp 20 hb_1 rfl (fun hb_1=>?_) fun hb_1=>?_
  ·refine arr 8 [] rfl ?_
   cases hb_1
   exact ku K
  ·refine arr 2 [1,0] rfl<|ly rfl rfl<|lnr ph1_1 rfl<|arr 2 [1,32] rfl<|ly rfl rfl<|lnr ph0_1 rfl<|arr 2 [] rfl ?_
   cases hb_1
   exact ku K
 refine en ?_
 refine ch h rfl ?_ ?_ <;> intro h
 ·refine att 4 [] rfl ?_
  exact rt hF h
 refine atr 6 [1,0] rfl<|lnr ph1_1 rfl<|art 3 [] rfl ?_
 refine lin (σ:=Int) (fun s=>[(2,pQ b_1),(30,pv1_1),(31,iV (p1.Rules.length:Int)),(32,iV s)]) (fun s=>St w0 Φ [(b_1,.cells #[pv0_0,pv0_1] 30 (0,0))] []) (fun m s=>bG N p0 p1 m s=some r) (0) N h (sx [] [1]) (fun n1 ih1 s hm=>?_)
 revert hm; revert s; intro s1 hm
 have h:bG N p0 p1 (n1+1) s1=some r:=hm
 show WT _ _ [(2,pQ b_1),(30,pv1_1),(31,iV (p1.Rules.length:Int)),(32,iV s1)] (St w0 Φ [(b_1,.cells #[pv0_0,pv0_1] 30 (0,0))] [])
 unfold bG at h
 refine att 5 [] rfl ?_
 refine ch h rfl ?_ ?_ <;> intro h
 ·refine atr 6 [] rfl ?_
  obtain ⟨x1,hx1,h⟩:=bs h
  obtain ⟨cs1,F1,-,g1,hb1,hs1,r1⟩:=ph1_1.el (a9 hx1).2.2
  obtain ⟨v1,G1,rfl,hq1,h1⟩:=r1
  obtain rfl:=hq1.symm
  refine lia ph1_1 hx1 rfl<|lhx 0 1 g1 rfl ?_
  refine ln (jP (C:=#[.slice none 0 0]) oD rfl) rfl (fun b_3=>?_)
  refine la rfl<|soN 0 yk rfl ⟨h1.one,trivial⟩ rfl ?_
  refine arr 6 [1,32] rfl ?_
  obtain ⟨x2,hx2,h⟩:=bs h
  obtain ⟨cs2,F2,-,g2,hb2,hs2,r2⟩:=ph0_1.el (a9 hx2).2.2
  obtain ⟨v2,G2,v3,G3,rfl,rfl,h2,h3⟩:=r2
  refine lia ph0_1 hx2 rfl<|lhx 0 2 g2 rfl<|lnz nG rfl fun b_4=>soN 0 yd rfl ⟨h2.one,h3.one,trivial⟩ rfl ?_
  refine arr 6 [0,32] rfl<|lnr h1 rfl<|arr 2 [0,0] rfl<|lnr h2 rfl<|la rfl<|en ?_
  refine ch h rfl ?_ ?_ <;> intro h
  ·refine att 4 [] rfl ?_
   exact rt hF h
  refine atr 5 [0,32] rfl<|lnr h1 rfl<|art 3 [] rfl ?_
  refine lin (σ:=Int) (fun s=>[(2,pQ b_1),(7,pQ b_4),(30,pv1_1),(31,iV (p1.Rules.length:Int)),(32,iV s1),(50,v1),(51,iV (x1.Levels.length:Int)),(52,iV s)]) (fun s=>St w0 Φ [(b_4,.cells #[v2,v3] 79 (0,0)),(b_1,.cells #[pv0_0,pv0_1] 30 (0,0))] []) (fun m s=>bQ N s1 (bG N p0 p1 n1) x1 x2 m s=some r) (0) N h (sx [] [0,1]) (fun n2 ih2 s hm=>?_)
  revert hm; revert s; intro s2 hm
  have h:bQ N s1 (bG N p0 p1 n1) x1 x2 (n2+1) s2=some r:=hm
  show WT _ _ [(2,pQ b_1),(7,pQ b_4),(30,pv1_1),(31,iV (p1.Rules.length:Int)),(32,iV s1),(50,v1),(51,iV (x1.Levels.length:Int)),(52,iV s2)] (St w0 Φ [(b_4,.cells #[v2,v3] 79 (0,0)),(b_1,.cells #[pv0_0,pv0_1] 30 (0,0))] [])
  unfold bQ at h
  refine att 5 [] rfl ?_
  refine ch h rfl ?_ ?_ <;> intro h
  ·refine atr 6 [] rfl ?_
   obtain ⟨x3,hx3,h⟩:=bs h
   obtain ⟨cs3,F3,-,g3,hb3,hs3,r3⟩:=h1.el (a9 hx3).2.2
   obtain ⟨v4,G4,rfl,hq2,h4⟩:=r3
   obtain rfl:=hq2.symm
   refine lia h1 hx3 rfl<|lhx 0 1 g3 rfl ?_
   refine ln (jP (C:=#[.slice none 0 0]) qe rfl) rfl (fun b_5=>?_)
   refine la rfl<|soN 0 Bq rfl ⟨h4.one,trivial⟩ rfl ?_
   refine arr 11 [0,32] rfl<|lnr h2 rfl<|art 3 [] rfl ?_
   refine cut (σ:=Int) (fun s=>[(2,pQ b_1),(7,pQ b_4),(8,iV s2),(9,pQ b_5),(10,iV s),(30,pv1_1),(31,iV (p1.Rules.length:Int)),(32,iV s1),(50,v1),(51,iV (x1.Levels.length:Int)),(52,iV s2)]) (fun s=>St w0 Φ [(b_5,.cells #[v4] 101 (0,0)),(b_4,.cells #[v2,v3] 79 (0,0)),(b_1,.cells #[pv0_0,pv0_1] 30 (0,0))] []) (fun s=>gj N s2 (bQ N s1 (bG N p0 p1 n1) x1 x2 n2) x3 s=some r) (fun s hm=>?_) (fun K=>?_)
   ·clear h
    revert hm; revert s; intro s3 hm
    have h:gj N s2 (bQ N s1 (bG N p0 p1 n1) x1 x2 n2) x3 s3=some r:=hm
    show WT _ _ [(2,pQ b_1),(7,pQ b_4),(8,iV s2),(9,pQ b_5),(10,iV s3),(30,pv1_1),(31,iV (p1.Rules.length:Int)),(32,iV s1),(50,v1),(51,iV (x1.Levels.length:Int)),(52,iV s2)] (St w0 Φ [(b_5,.cells #[v4] 101 (0,0)),(b_4,.cells #[v2,v3] 79 (0,0)),(b_1,.cells #[pv0_0,pv0_1] 30 (0,0))] [])
    unfold gj at h
    refine atr 4 [0,0] rfl<|lnr h4 rfl<|art 3 [] rfl ?_
    refine lin (σ:=Int) (fun s=>[(2,pQ b_1),(7,pQ b_4),(8,iV s2),(10,iV s3),(30,pv1_1),(31,iV (p1.Rules.length:Int)),(32,iV s1),(50,v1),(51,iV (x1.Levels.length:Int)),(52,iV s2),(67,v4),(68,iV (x3.Toks.length:Int)),(69,iV s)]) (fun s=>St w0 Φ [(b_4,.cells #[v2,v3] 79 (0,0)),(b_1,.cells #[pv0_0,pv0_1] 30 (0,0))] []) (fun m s=>eg N s2 (bQ N s1 (bG N p0 p1 n1) x1 x2 n2) x3 s3 m s=some r) (0) N h (sx [] [1,1]) (fun n4 ih4 s hm=>?_)
    revert hm; revert s; intro s4 hm
    have h:eg N s2 (bQ N s1 (bG N p0 p1 n1) x1 x2 n2) x3 s3 (n4+1) s4=some r:=hm
    show WT _ _ [(2,pQ b_1),(7,pQ b_4),(8,iV s2),(10,iV s3),(30,pv1_1),(31,iV (p1.Rules.length:Int)),(32,iV s1),(50,v1),(51,iV (x1.Levels.length:Int)),(52,iV s2),(67,v4),(68,iV (x3.Toks.length:Int)),(69,iV s4)] (St w0 Φ [(b_4,.cells #[v2,v3] 79 (0,0)),(b_1,.cells #[pv0_0,pv0_1] 30 (0,0))] [])
    unfold eg at h
    refine att 5 [] rfl ?_
    refine ch h rfl ?_ ?_ <;> intro h
    ·refine atr 5 [] rfl ?_
     obtain ⟨x4,hx4,h⟩:=bs h
     obtain ⟨cs4,F4,-,g4,hb4,hs4,r4⟩:=h4.el (a9 hx4).2.2
     obtain ⟨v5,G5,v6,G6,rfl,rfl,h5,h6⟩:=r4
     refine lia h4 hx4 rfl<|lhx 0 2 g4 rfl<|lnz dJ rfl fun b_6=>soN 0 qy rfl ⟨h5.one,h6.one,trivial⟩ rfl ?_
     refine arr 5 [0,0] rfl<|lnr h5 rfl<|arr 4 [] rfl ?_
     obtain ⟨b2,hb_2,h⟩:=bs h
     refine WL.cutN 6 [(85,.bool b2),(2,pQ b_1),(7,pQ b_4),(8,iV s2),(10,iV s3),(30,pv1_1),(31,iV (p1.Rules.length:Int)),(32,iV s1),(50,v1),(51,iV (x1.Levels.length:Int)),(52,iV s2),(67,v4),(68,iV (x3.Toks.length:Int)),(69,iV s4)] ?_ (fun K=>?_)
     rotate_left
     ·refine sp 79 hb_2 rfl (fun hb_2=>?_) fun hb_2=>?_
      ·refine arr 6 [] rfl ?_
       cases hb_2
       exact ku K
      ·refine arr 2 [1,0] rfl<|ly rfl rfl<|lnr h6 rfl<|arr 3 [] rfl ?_
       cases hb_2
       exact ku K
     refine en ?_
     refine ch h rfl ?_ ?_ <;> intro h
     ·refine att 4 [] rfl ?_
      exact rt hF h
     refine att 6 [] rfl ?_
     exact lb [] [1,1] (ih4 _ h)
    refine att 6 [] rfl ?_
    exact lb [] [0,0] (ih2 _ h)
   refine ch h rfl ?_ ?_ <;> intro h
   ·refine atr 3 [1,32] rfl<|lnr h3 rfl<|la rfl<|en ?_
    exact wo [] [0,0,0] (K _ h)
   refine WT.skip ?_
   exact wo [] [0,0,0] (K _ h)
  refine att 6 [] rfl ?_
  exact lb [] [1] (ih1 _ h)
 refine att 5 [] rfl ?_
 exact rt hF h
theorem vN (w0:aw Ψ Φ []) (p0:bm) (p1:aO) (p2:ax) (p3:ah) (p4:Int) (ph0_0:RSl dH 5 Ψ pG0_0 pv0_0 p0.Rules) (ph1_0:RSl bl 4 Ψ pG1_0 pv1_0 p1.Alphas) (ph1_1:RSl bV 2 Ψ pG1_1 pv1_1 p1.Chains) (ph2_0:RSl gp 1 Ψ pG2_0 pv2_0 p2.Alphas) (ph2_1:RSl jx 1 Ψ pG2_1 pv2_1 p2.Rules) (ph3_0:RSl bh 3 Ψ pG3_0 pv3_0 p3.Items) {r:Bool} (h:nE N p0 p1 p2 p3 p4=some r) :
  CB w0 prog 21 [.agg [.string p0.Name,pv0_0].toArray,.agg [pv1_0,pv1_1].toArray,.agg [pv2_0,pv2_1].toArray,.agg [pv3_0,iV p3.Next].toArray,iV p4] (.bool r):=by
 refine eN func21 rfl ntmps21 rfl w0 fun hF=>?_
 unfold nE at h
 refine sr<|lbx rfl fun b_1=>lbx rfl fun b_2=>lbx rfl fun b_3=>lbx rfl fun b_4=>arr 7 [66,98] rfl<|qd h (rZ N · p1 p0 ph1_0 ph1_1 ph0_0 ·) rfl rfl rfl fun x1 h=>arr 2 [] rfl ?_
 obtain ⟨b1,hb_1,h⟩:=bs h
 refine WL.cutN 4 [(21,.bool b1),(4,iV p4),(6,pQ b_2),(7,pQ b_3),(8,pQ b_4)] ?_ (fun K=>?_)
 rotate_left
 ·refine sp 17 hb_1 rfl (fun hb_1=>?_) fun hb_1=>?_
  ·refine arr 4 [] rfl ?_
   cases hb_1
   exact ku K
  ·refine ly rfl rfl<|ld2 pV 0 rfl<|ly rfl rfl<|qd hb_1 (uR N · p3 ph3_0 ·) rfl rfl rfl fun x2 hb_1=>arr 2 [] rfl ?_
   cases hb_1
   exact ku K
 refine la rfl ?_
 obtain ⟨b2,hb_2,h⟩:=bs h
 refine WL.cutN 5 [(27,.bool b2),(4,iV p4),(8,pQ b_4)] ?_ (fun K=>?_)
 rotate_left
 ·refine sp 22 hb_2 rfl (fun hb_2=>?_) fun hb_2=>?_
  ·refine arr 5 [] rfl ?_
   cases hb_2
   exact ku K
  ·refine arr 2 [66,34] rfl<|ly rfl rfl<|qd hb_2 (vj N · p1 p2 ph1_0 ph1_1 ph2_0 ph2_1 ·) rfl rfl rfl fun x3 hb_2=>arr 2 [] rfl ?_
   cases hb_2
   exact ku K
 refine en ?_
 refine ch h rfl ?_ ?_ <;> intro h
 ·refine att 4 [] rfl ?_
  exact rt hF h
 refine atr 5 [2] rfl<|kab h rfl rfl rfl (fun b z q=>jl N b p3 p4 (ph3_0.y z) q) ?_
 rintro x4 h v1 Φ_1 F1 ⟨ap1,fr1,v2,rfl,rfl,h1⟩
 refine arr 3 [] rfl<|lnz j9 rfl fun b_5=>soN 0 jL rfl ⟨rfl,h1.one,trivial⟩ rfl ?_
 refine art 7 [] rfl ?_
 exact rt hF h
theorem vU (w0:aw Ψ Φ []) (p0:ai) (p1:aA) (ph0_0:RSl aH 3 Ψ pG0_0 pv0_0 p0.Consts) (ph0_1:RSl (RI .i64) 1 Ψ pG0_1 pv0_1 p0.At) (ph1_0:RSl aH 3 Ψ pG1_0 pv1_0 p1.Fields) {r:Bool} (h:nr N p0 p1=some r) :
  CB w0 prog 48 [.agg [.string p0.Kind,iV p0.N,pv0_0,pv0_1].toArray,.agg [.string p1.Kind,pv1_0].toArray] (.bool r):=by
 refine eN func48 rfl ntmps48 rfl w0 fun hF=>?_
 unfold nr at h
 refine sr<|lbx rfl fun b_1=>lbx rfl fun b_2=>arr 11 [0,0,0,32] rfl ?_
 obtain ⟨b1,hb_1,h⟩:=bs h
 refine WL.cutN 7 [(19,.bool b1),(2,pQ b_1),(3,pQ b_2)] ?_ (fun K=>?_)
 rotate_left
 ·refine sp 12 hb_1 rfl (fun hb_1=>?_) fun hb_1=>?_
  ·refine arr 7 [] rfl ?_
   cases hb_1
   exact ku K
  ·refine arr 2 [1,0] rfl<|ly rfl rfl<|lnr ph1_0 rfl<|arr 4 [1,32] rfl ?_
   cases hb_1
   exact ku K
 refine en ?_
 refine ch h rfl ?_ ?_ <;> intro h
 ·refine att 4 [] rfl ?_
  exact rt hF h
 refine atr 6 [3,32] rfl<|lnr ph0_1 rfl<|art 3 [] rfl ?_
 refine lin (σ:=Int) (fun s=>[(2,pQ b_1),(3,pQ b_2),(21,pv0_1),(22,iV (p0.At.length:Int)),(23,iV s)]) (fun s=>St w0 Φ [(b_2,.cells #[.string p1.Kind,pv1_0] 47 (0,0)),(b_1,.cells #[.string p0.Kind,iV p0.N,pv0_0,pv0_1] 75 (0,0))] []) (fun m s=>gl N p0 p1 m s=some r) (0) N h (sx [] [0,0]) (fun n1 ih1 s hm=>?_)
 revert hm; revert s; intro s1 hm
 have h:gl N p0 p1 (n1+1) s1=some r:=hm
 show WT _ _ [(2,pQ b_1),(3,pQ b_2),(21,pv0_1),(22,iV (p0.At.length:Int)),(23,iV s1)] (St w0 Φ [(b_2,.cells #[.string p1.Kind,pv1_0] 47 (0,0)),(b_1,.cells #[.string p0.Kind,iV p0.N,pv0_0,pv0_1] 75 (0,0))] [])
 unfold gl at h
 refine att 5 [] rfl ?_
 refine ch h rfl ?_ ?_ <;> intro h
 ·refine atr 6 [] rfl ?_
  obtain ⟨x1,hx1,h⟩:=bs h
  obtain ⟨cs1,F1,-,g1,hb1,hs1,r1⟩:=ph0_1.el (a9 hx1).2.2
  obtain ⟨rfl,-⟩:=r1
  refine lia ph0_1 hx1 rfl<|lhx 0 0 g1 rfl<|art 4 [] rfl<|WT.draw cc (by kernel_rfl) (fun _ h=>h.drew)<|aqq 3 [] rfl ?_
  obtain ⟨b2,hb_2,h⟩:=bs h
  refine WQ.cutN 6 [(36,.bool b2),(2,pQ b_1),(3,pQ b_2),(5,iV s1),(6,iV x1),(21,pv0_1),(22,iV (p0.At.length:Int)),(23,iV s1)] ?_ (fun K=>?_)
  rotate_left
  ·refine WQ.split (d:=30) rfl (fun c4=>?_) (fun c4=>?_)
   ·replace hb_2:=fN hb_2 c4
    refine aqq 6 [] rfl ?_
    cases hb_2
    exact kq K
   ·replace hb_2:=fO hb_2 c4
    refine aqq 3 [1,0] rfl<|WQ.yes rfl rfl<|qq (o5 fT rfl rfl ph1_0) rfl<|aqq 2 [] rfl ?_
    cases hb_2
    exact kq K
  refine qq (ep rfl) rfl ?_
  obtain ⟨b3,hb_3,h⟩:=bs h
  refine WQ.cutN 6 [(43,.bool b3),(2,pQ b_1),(3,pQ b_2),(5,iV s1),(6,iV x1),(21,pv0_1),(22,iV (p0.At.length:Int)),(23,iV s1)] ?_ (fun K=>?_)
  rotate_left
  ·refine WQ.split (d:=37) rfl (fun c5=>?_) (fun c5=>?_)
   ·replace hb_3:=fN hb_3 c5
    refine aqq 6 [] rfl ?_
    cases hb_3
    exact kq K
   ·replace hb_3:=fO hb_3 c5
    refine aqq 3 [2,32] rfl<|WQ.yes rfl rfl<|qq (o5 fT rfl rfl ph0_0) rfl<|aqq 2 [] rfl ?_
    cases hb_3
    exact kq K
  refine qq (ep rfl) rfl ?_
  obtain ⟨b4,hb_4,h⟩:=bs h
  refine WQ.cutN 12 [(56,.bool b4),(2,pQ b_1),(3,pQ b_2),(21,pv0_1),(22,iV (p0.At.length:Int)),(23,iV s1)] ?_ (fun K=>?_)
  rotate_left
  ·refine WQ.split (d:=44) rfl (fun c6=>?_) (fun c6=>?_)
   ·replace hb_4:=fN hb_4 c6
    refine aqq 12 [] rfl ?_
    cases hb_4
    exact kq K
   ·replace hb_4:=fO hb_4 c6
    refine aqq 3 [1,0] rfl<|WQ.yes rfl rfl ?_
    obtain ⟨x2,hx2,hb_4⟩:=bs hb_4
    obtain ⟨cs2,F2,-,g2,hb2,hs2,r2⟩:=ph1_0.el (a9 hx2).2.2
    obtain ⟨rfl,-⟩:=r2
    refine qq (ac fT rfl rfl ph1_0 hx2) rfl<|WQ.yes rfl rfl<|qq (aI kz rfl (fun w1 hw=>(g2.of_eq 0 3 rfl rfl:rg _ _ _ [iV x2.K,iV x2.N,.string x2.S]).rangeAt hw.in0) rfl) rfl<|aqq 3 [2,32] rfl<|WQ.yes rfl rfl ?_
    obtain ⟨x3,hx3,hb_4⟩:=bs hb_4
    obtain ⟨cs3,F3,-,g3,hb3,hs3,r3⟩:=ph0_0.el (a9 hx3).2.2
    obtain ⟨rfl,-⟩:=r3
    refine qq (ac fT rfl rfl ph0_0 hx3) rfl<|WQ.yes rfl rfl<|qq (aI kz rfl (fun w1 hw=>(g3.of_eq 0 3 rfl rfl:rg _ _ _ [iV x3.K,iV x3.N,.string x3.S]).rangeAt hw.in0) rfl) rfl<|WQ.yes rfl rfl<|qq (te mK rfl rfl rfl (r:=bo x2 x3) rfl) rfl<|WQ.q (nT rfl rfl) rfl rfl rfl ?_
    cases hb_4
    exact kq K
  refine WQ.nil ?_
  refine ch h rfl ?_ ?_ <;> intro h
  ·refine att 4 [] rfl ?_
   exact rt hF h
  refine att 6 [] rfl ?_
  exact lb [] [0,0] (ih1 _ h)
 refine att 5 [] rfl ?_
 exact rt hF h
theorem tq (w0:aw Ψ Φ []) (p0:an) (p1:Bool) (ph0_0:RSl bW 3 Ψ pG0_0 pv0_0 p0.Pats) (ph0_1:RSl bL 11 Ψ pG0_1 pv0_1 p0.Conds) (ph0_2:RSl fS 5 Ψ pG0_2 pv0_2 p0.Acts) {r:(List av)} (h:oU N p0 p1=some r) :
  Calls prog 75 [.agg [.string p0.Name,iV p0.Sal,pv0_0,pv0_1,pv0_2].toArray,.bool p1].toArray w0.w (bg Φ w0.w [] (fun Φ' Fs v=>∃ (sr_0_0:Value) (Dr_0_0:List Nat),v=sr_0_0∧Fs=[ob sr_0_0]∧OSl bW 128 3 Φ' Dr_0_0 sr_0_0 r∧(∀ k∈Dr_0_0,k∈pG0_0))):=by
 refine eN func75 rfl ntmps75 rfl w0 fun hF=>?_
 unfold oU at h
 refine sr<|lbx rfl fun b_1=>arr 11 [2,0] rfl<|lnr ph0_0 rfl<|art 3 [] rfl<|wtS ?_
 have k1:=OSl.nil bW 128 3 Φ
 refine lin (σ:=Hp × (List av) × Value × List Nat × Int) (fun s=>[(1,.bool p1),(5,s.2.2.1),(9,pv0_0),(10,iV (p0.Pats.length:Int)),(11,iV s.2.2.2.2)]) (fun s=>St w0 s.1 [] [ob s.2.2.1]) (fun m s=>gE N p0 p1 m s.2.1 s.2.2.2.2=some r∧(OSl bW 128 3 s.1 s.2.2.2.1 s.2.2.1 s.2.1)∧(∀ k∈s.2.2.2.1,k∈pG0_0)) (Φ,([]:List av),(.slice none 0 0),[],0) N ⟨h,k1,(by simp)⟩ (sx [0] []) (fun n1 ih1 s hm=>?_)
 obtain ⟨Φ_1,s1,u1,D1,s2⟩:=s
 obtain ⟨h,k2,i1⟩:=hm
 dsimp only at h k2 i1 ⊢
 unfold gE at h
 refine att 5 [] rfl ?_
 refine ch h rfl ?_ ?_ <;> intro h
 ·refine atr 5 [] rfl ?_
  obtain ⟨x1,hx1,h⟩:=bs h
  obtain ⟨cs1,F1,-,g1,hb1,hs1,r1⟩:=ph0_0.el (a9 hx1).2.2
  obtain ⟨v1,G1,rfl,hq1,h1⟩:=r1
  obtain rfl:=hq1.symm
  refine lia ph0_0 hx1 rfl<|lhx 0 3 g1 rfl<|lnz jY rfl fun b_2=>soN 0 od rfl ⟨rfl,h1.one,rfl,trivial⟩ rfl ?_
  refine arr 6 [2,0] rfl<|lq (FZ FP rfl rfl) rfl<|en ?_
  refine ch h rfl ?_ ?_ <;> intro h
  ·refine atr 3 [3] rfl<|lu0 h1 fun h2=>?_
   have rc1:RC bW 3 Φ_1 ([G1]:List (List Nat)) [.string x1.Kind,v1,.bool x1.Not] ([x1]:List av):=RC.cons (c:=[.string x1.Kind,v1,.bool x1.Not]) (cells:=[]) ⟨v1,G1,rfl,rfl,h2⟩ rfl (RC.nil _ _ _)
   refine le' (aY (vs:=[(0,.agg [.string x1.Kind,v1,.bool x1.Not].toArray)]) (C:=#[.string x1.Kind,v1,.bool x1.Not]) bW.lasts o7 jY rfl rfl rfl rfl (ag tS (a7 (C':=[.string x1.Kind,v1,.bool x1.Not]) rfl rfl rfl rfl rfl (aa))) rfl rc1 rfl (RC.kn bW.knows rc1)) rfl ?_
   rintro v2 Φ_2 D2 ⟨fr1,h3⟩
   replace h3:OSl bW 128 3 Φ_2 (G1) v2 ([x1]:List av):=by simpa [List.append_assoc] using h3
   replace k2:=k2.f0 fr1
   obtain ⟨x2,hx2,h⟩:=bs h
   refine le' (bU bW.lasts bW.one o7 yz rfl rfl rfl rfl rfl (js:=[1]) (Rr:=[ob v2]) rfl k2 h3 (fun ap=>(Dj.sub (ap.o ph0_0.old) i1)) (fun ap=>(Dj.sub (Dj.sub (ap.o ph0_0.old) (fun k h=>hs1 k h)) (fun k hk=>(by simpa [List.append_assoc] using hk:k∈G1)))) hx2) rfl ?_
   rintro v3 Φ_3 D3 ⟨⟨ap1,fr2⟩,h4⟩
   refine art 7 [] rfl ?_
   exact lb [0] [] (ih1 (_,_,_,_,_) ⟨h,h4,(fun k hk=>((List.mem_append.1 hk).elim (fun h=>(i1 k h)) (fun h=>((fun k h=>hs1 k h) k ((fun k hk=>(by simpa [List.append_assoc] using hk:k∈G1)) k h)))))⟩)
  refine att 6 [] rfl ?_
  exact lb [0] [] (ih1 (_,_,_,_,_) ⟨h,k2,(fun k hk=>(i1 k hk))⟩)
 refine att 6 [] rfl ?_
 exact rtg [0] hF (az.one rfl) rfl (by cases h; exact fun w1 hw=>⟨u1,D1,rfl,rfl,k2,(fun k hk=>(i1 k hk))⟩)
theorem tC (w0:aw Ψ Φ []) (p0:bm) (p1:aO) (p2:ax) (p3:ah) (p4:Int) (p5:Int) (ph0_0:RSl dH 5 Ψ pG0_0 pv0_0 p0.Rules) (ph1_1:RSl bV 2 Ψ pG1_1 pv1_1 p1.Chains) (ph2_0:RSl gp 1 Ψ pG2_0 pv2_0 p2.Alphas) (ph3_0:RSl bh 3 Ψ pG3_0 pv3_0 p3.Items) {r:cj} (h:mo N p0 p1 p2 p3 p4 p5=some r) :
  Calls prog 49 [.agg [.string p0.Name,pv0_0].toArray,.agg [pv1_0,pv1_1].toArray,.agg [pv2_0,pv2_1].toArray,.agg [pv3_0,iV p3.Next].toArray,iV p4,iV p5].toArray w0.w (bg Φ w0.w [] (fun Φ' Fs v=>∃ (sr_0_0:Value) (Dr_0_0:List Nat) (sr_0_1:Value) (Dr_0_1:List Nat) (sr_0_2:Value) (Gr_0_2:List Nat) (sr_0_3:Value) (Gr_0_3:List Nat) (sr_0_4:Value) (Gr_0_4:List Nat) (sr_0_5:Value) (Gr_0_5:List Nat),v = .agg [sr_0_0,sr_0_1,sr_0_2,sr_0_3,sr_0_4,sr_0_5,iV r.s.Next,iV r.id].toArray∧Fs=[ob sr_0_0,ob sr_0_1]∧OSl bW 128 3 Φ' Dr_0_0 sr_0_0 r.pos∧(∀ k∈Dr_0_0,k∈pG0_0)∧OSl bW 128 3 Φ' Dr_0_1 sr_0_1 r.neg∧(∀ k∈Dr_0_1,k∈pG0_0)∧RSl (RI .i64) 1 Φ' Gr_0_2 sr_0_2 r.chain.Pos∧(∀ k∈Gr_0_2,k∈pG1_1)∧RSl (RI .i64) 1 Φ' Gr_0_3 sr_0_3 r.chain.Neg∧(∀ k∈Gr_0_3,k∈pG1_1)∧RSl gp 1 Φ' Gr_0_4 sr_0_4 r.alphas∧(∀ k∈Gr_0_4,k∈pG2_0)∧RSl bh 3 Φ' Gr_0_5 sr_0_5 r.s.Items∧(∀ k∈Gr_0_5,k∈pG3_0))):=by
 refine eN func49 rfl ntmps49 rfl w0 fun hF=>?_
 unfold mo at h
 refine sr<|lbx rfl fun b_1=>lbx rfl fun b_2=>lbx rfl fun b_3=>lbx rfl fun b_4=>lnz yH rfl fun b_5=>arr 6 [1,128] rfl ?_
 obtain ⟨x1,hx1,h⟩:=bs h
 obtain ⟨cs1,F1,-,g1,hb1,hs1,r1⟩:=ph0_0.el (a9 hx1).2.2
 obtain ⟨v1,G1,v2,G2,v3,G3,rfl,rfl,h1,h2,h3⟩:=r1
 refine lia ph0_0 hx1 rfl<|lhx 0 5 g1 rfl<|lnz rB rfl fun b_6=>soN 0 uZ rfl ⟨rfl,rfl,h1.one,h2.one,h3.one,trivial⟩ rfl ?_
 refine en<|sq<|wm [0,1,2,3,4,5] [14] rfl<|amm 5 [0,5,2,5,4,1,5,128,6] [0,1,2,3,4,5] rfl rfl ?_
 obtain ⟨x2,hx2,h⟩:=bs h
 obtain ⟨cs2,F2,-,g2,hb2,hs2,r2⟩:=ph1_1.el (a9 hx2).2.2
 obtain ⟨v4,G4,v5,G5,rfl,rfl,h4,h5⟩:=r2
 refine mq 7 rfl (by kernel_rfl) (kN [0,1,2,3,4,5]) (ac ky rfl rfl ph1_1 hx2) rfl<|mq 8 rfl (by kernel_rfl) (kN [0,1,2,3,4,5]) (aI DR rfl (fun w1 hw=>(g2.of_eq 0 2 rfl rfl:rg _ _ _ [v4,v5]).rangeAt hw.1) rfl) rfl<|amm 4 [9,0,10,96,11,66,12] [0,1,2,3,4,5] rfl rfl ?_
 obtain ⟨x3,hx3,h⟩:=bs h
 refine WM.one 1 (by kernel_rfl) (mc rfl (fun _ v Φx D w1 hq hw=>Kn.of Kf.nil (am [0,1,2,3,4,5] rfl) hw) (bZ (js:=[]) (R:=[]) B8 rfl rfl (fun w1 hw ap hl=>tq N (ba hw.fro) x1 false (h1.y hw.up) (h2.y hw.up) (h3.y hw.up)  hx3)) rfl ?_)
 rintro v6 Φ_1 F3 ⟨ap1,fr1,v7,D1,rfl,rfl,h6,i1⟩
 obtain ⟨x4,hx4,h⟩:=bs h
 refine WM.one 3 (by kernel_rfl) (mc rfl (fun _ v Φx D w1 hq hw=>Kn.of Kf.nil (am [0,1,2,3,4,5] rfl) hw) (bZ (js:=[]) (R:=[ob v6]) B8 rfl rfl (fun w1 hw ap hl=>tq N (ba hw.fro) x1 true (h1.y hw.up) (h2.y hw.up) (h3.y hw.up)  hx4)) rfl ?_)
 rintro v8 Φ_2 F4 ⟨ap2,fr2,v9,D2,rfl,rfl,h7,i2⟩
 replace h6:=h6.fr fr2 (ap2.q 0 rfl) (Dj.sub (ap2.o h1.old) i1)
 refine mq 13 rfl (by kernel_rfl) (kN [0,1,2,3,4,5]) (aQ (vs:=[(0,v6),(1,v8),(2,.agg [v4,v5].toArray),(3,pv2_0),(4,.agg [pv3_0,iV p3.Next].toArray),(5,iV p4)]) (C:=#[v6,v8,v4,v5,pv2_0,pv3_0,iV p3.Next,iV p4]) Ea yH rfl (a7 (C':=[v6,.slice none 0 0,.slice none 0 0,.slice none 0 0,.slice none 0 0,.slice none 0 0,iV 0,iV 0]) rfl (bt h6.one) rfl rfl rfl (a7 (C':=[v6,v8,.slice none 0 0,.slice none 0 0,.slice none 0 0,.slice none 0 0,iV 0,iV 0]) rfl (bt h7.one) rfl rfl rfl (a7 (C':=[v6,v8,v4,v5,.slice none 0 0,.slice none 0 0,iV 0,iV 0]) rfl rfl rfl rfl rfl (a7 (C':=[v6,v8,v4,v5,pv2_0,.slice none 0 0,iV 0,iV 0]) rfl (bt ph2_0.one) rfl rfl rfl (a7 (C':=[v6,v8,v4,v5,pv2_0,pv3_0,iV p3.Next,iV 0]) rfl rfl rfl rfl rfl (a7 (C':=[v6,v8,v4,v5,pv2_0,pv3_0,iV p3.Next,iV p4]) rfl rfl rfl rfl rfl (aa)))))))) rfl ?_
 refine on1 14 (msN 1 rfl nk BO rfl ⟨h6.one,h7.one,h4.one,h5.one,ph2_0.one,ph3_0.one,rfl,rfl,trivial⟩ rfl rfl ?_)
 refine WM.nil (by kernel_rfl) ?_
 exact rtg [1,0] hF (az.one (aX BW rfl (fun w1 hw=>hw.rgO (i:=1) rfl 0 8 [v6,v8,v4,v5,pv2_0,pv3_0,iV p3.Next,iV p4] rfl) rfl)) rfl (by cases h; exact fun w1 hw=>⟨v6,D1,v8,D2,v4,G4,v5,G5,pv2_0,pG2_0,pv3_0,pG3_0,rfl,rfl,h6,(fun k hk=>((fun k h=>hs1 k (List.mem_append.2 (.inl h))) k (i1 k hk))),h7,(fun k hk=>((fun k h=>hs1 k (List.mem_append.2 (.inl h))) k (i2 k hk))),(h4.y hw.up),(fun k hk=>((fun k h=>hs2 k (List.mem_append.2 (.inl h))) k hk)),(h5.y hw.up),(fun k hk=>((fun k h=>hs2 k (List.mem_append.2 (.inr h))) k hk)),(ph2_0.y hw.up),(fun k hk=>hk),(ph3_0.y hw.up),(fun k hk=>hk)⟩)
theorem cX (w0:aw Ψ Φ []) (p0:(List aD)) (ph0:RSl bi 4 Ψ pG0 pv0 p0) {r:(List aD)} (h:bz N p0=some r) :
  Calls prog 111 [pv0].toArray w0.w (bg Φ w0.w [] (fun Φ' Fs v=>∃ (sr_0_0:Value),v=sr_0_0∧Fs=[ob sr_0_0]∧OSl bi 177 4 Φ' [] sr_0_0 r)):=by
 refine eN func111 rfl ntmps111 rfl w0 fun hF=>?_
 unfold bz at h
 refine att 6 [] rfl ?_
 rcases RSl.nilOr ph0 with ⟨hxs1,cc1,hv1⟩ | ⟨a1,cc1,hv1⟩
 ·replace h:some []=some r:=by simpa [hxs1,app] using h
  refine atr 2 [] rfl<|lq (l5 kL (congrArg some hv1) rfl) rfl<|en ?_
  refine cd rfl (fun c=>?_) (fun c=>by simp at c)
  refine att 4 [] rfl ?_
  refine WT.ret hF (az.one rfl) (fun w1 hw=>?_)
  cases h
  replace hw:=hw.addNil
  refine bc (js:=[0]) hw rfl ⟨.slice none 0 0,rfl,rfl,OSl.nil _ _ _ _⟩
 refine atr 2 [] rfl<|lq (l5 kL (congrArg some hv1) rfl) rfl<|en ?_
 refine cd rfl (fun c=>by simp at c) (fun c=>?_)
 refine atr 3 [] rfl<|le' (dI bi.lasts kL pn rfl rfl) rfl ?_
 rintro v1 Φ_1 D1 ⟨fr1,h1⟩
 refine la rfl<|lu0 ph0 fun h2=>?_
 obtain ⟨x1,hx1,h⟩:=bs h
 refine le' (bB bi.lasts bi.one bi.flat kL uT rfl rfl rfl rfl rfl (js:=[0]) (Rr:=[]) rfl h1 h2 hx1) rfl ?_
 rintro v2 Φ_2 D2 ⟨⟨ap1,fr2⟩,h3⟩
 refine la rfl<|en ?_
 exact rtg [0] hF (az.one rfl) rfl (by cases h; exact fun w1 hw=>⟨v2,rfl,rfl,h3⟩)
theorem vT (w0:aw Ψ Φ []) (p0:(List aD)) (p1:ByteArray) (ph0:RSl bi 4 Ψ pG0 pv0 p0) {r:bn × Bool} (h:nh N p0 p1=some r) :
  CB w0 prog 112 [pv0,.string p1] (.tuple #[.agg [iV r.1.K,iV r.1.N,.string r.1.S].toArray,.bool r.2]):=by
 refine eN func112 rfl ntmps112 rfl w0 fun hF=>?_
 unfold nh at h
 refine sr<|lnz jk rfl fun b_1=>arr 6 [] rfl<|lnr ph0 rfl<|art 3 [] rfl ?_
 refine lin (σ:=Int) (fun s=>[(1,.string p1),(4,pQ b_1),(8,pv0),(9,iV (p0.length:Int)),(10,iV s)]) (fun s=>St w0 Φ [(b_1,.cells #[iV 0,iV 0,.string (⟨#[]⟩:ByteArray)] 91 (0,0))] []) (fun m s=>fX N p0 p1 m s=some r) (0) N h (sx [] [0]) (fun n1 ih1 s hm=>?_)
 revert hm; revert s; intro s1 hm
 have h:fX N p0 p1 (n1+1) s1=some r:=hm
 show WT _ _ [(1,.string p1),(4,pQ b_1),(8,pv0),(9,iV (p0.length:Int)),(10,iV s1)] (St w0 Φ [(b_1,.cells #[iV 0,iV 0,.string (⟨#[]⟩:ByteArray)] 91 (0,0))] [])
 unfold fX at h
 refine att 5 [] rfl ?_
 refine ch h rfl ?_ ?_ <;> intro h
 ·refine atr 5 [] rfl ?_
  obtain ⟨x1,hx1,h⟩:=bs h
  obtain ⟨cs1,F1,-,g1,hb1,hs1,r1⟩:=ph0.el (a9 hx1).2.2
  obtain ⟨rfl,-⟩:=r1
  refine lia ph0 hx1 rfl<|lhx 0 4 g1 rfl<|lnz pn rfl fun b_2=>soN 0 EV rfl ⟨rfl,rfl,rfl,rfl,trivial⟩ rfl ?_
  refine art 8 [0,0] rfl ?_
  refine ch h rfl ?_ ?_ <;> intro h
  ·refine atr 4 [1,3] rfl<|soN 1 qZ rfl ⟨rfl,rfl,rfl,trivial⟩ rfl ?_
   refine la rfl<|en ?_
   refine WT.ret hF (az.two (aX kz rfl (fun w1 hw=>hw.rgO (i:=1) rfl 0 3 [iV x1.V.K,iV x1.V.N,.string x1.V.S] rfl) rfl) rfl) (fun w1 hw=>?_)
   cases h
   exact gi hw
  refine att 6 [] rfl ?_
  exact lb [] [1] (ih1 _ h)
 refine xt rfl<|sr<|lq (aQ (vs:=[]) (C:=#[iV 0,iV 0,.string (⟨#[]⟩:ByteArray)]) tl jk rfl (aa)) rfl<|soN 0 qZ rfl ⟨rfl,rfl,rfl,trivial⟩ rfl ?_
 refine la rfl<|en ?_
 refine WT.ret hF (az.two (aX kz rfl (fun w1 hw=>hw.rgO (i:=0) rfl 0 3 [iV 0,iV 0,.string (⟨#[]⟩:ByteArray)] rfl) rfl) rfl) (fun w1 hw=>?_)
 cases h
 exact gi hw
theorem m8 (w0:aw Ψ Φ []) (p0:av) (p1:aA) (p2:(List aD)) (ph0_0:RSl du 5 Ψ pG0_0 pv0_0 p0.Args) (ph1_0:RSl aH 3 Ψ pG1_0 pv1_0 p1.Fields) (ph2:RSl bi 4 Ψ pG2 pv2 p2) {r:(List aD) × Bool} (h:gP N p0 p1 p2=some r) :
  Calls prog 77 [.agg [.string p0.Kind,pv0_0,.bool p0.Not].toArray,.agg [.string p1.Kind,pv1_0].toArray,pv2].toArray w0.w (bg Φ w0.w [] (fun Φ' Fs v=>∃ (sr_0_0:Value),v = .tuple #[sr_0_0,.bool r.2]∧Fs=[ob sr_0_0]∧OSl bi 177 4 Φ' [] sr_0_0 r.1)):=by
 refine eN func77 rfl ntmps77 rfl w0 fun hF=>?_
 unfold gP at h
 refine sr<|lbx rfl fun b_1=>lbx rfl fun b_2=>arr 12 [0,0,0,32] rfl ?_
 obtain ⟨b1,hb_1,h⟩:=bs h
 refine WL.cutN 8 [(27,.bool b1),(2,pv2),(3,pQ b_1),(4,pQ b_2)] ?_ (fun K=>?_)
 rotate_left
 ·refine sp 19 hb_1 rfl (fun hb_1=>?_) fun hb_1=>?_
  ·refine arr 8 [] rfl ?_
   cases hb_1
   exact ku K
  ·refine arr 2 [1,0] rfl<|ly rfl rfl<|lnr ph1_0 rfl<|arr 2 [1,32] rfl<|ly rfl rfl<|lnr ph0_0 rfl<|arr 2 [] rfl ?_
   cases hb_1
   exact ku K
 refine en ?_
 refine ch h rfl ?_ ?_ <;> intro h
 ·refine sr<|la rfl<|kab h rfl rfl rfl (fun b z q=>cX N b p2 (ph2.y z) q) ?_
  rintro x1 h v1 Φ_1 F1 ⟨ap1,fr1,v2,rfl,rfl,h1⟩
  refine art 3 [] rfl ?_
  exact rtg [0] hF (az.two rfl rfl) rfl (by cases h; exact fun w1 hw=>⟨v1,rfl,rfl,h1⟩)
 refine atr 4 [] rfl<|kab h rfl rfl rfl (fun b z q=>cX N b p2 (ph2.y z) q) ?_
 rintro x2 h v3 Φ_2 F2 ⟨ap2,fr2,v4,rfl,rfl,h2⟩
 refine arr 7 [1,32] rfl<|lnr ph0_0 rfl<|art 3 [] rfl ?_
 refine lin (σ:=Hp × (List aD) × Value × Int) (fun s=>[(2,pv2),(4,pQ b_2),(8,s.2.2.1),(33,pv0_0),(34,iV (p0.Args.length:Int)),(35,iV s.2.2.2)]) (fun s=>St w0 s.1 [(b_2,.cells #[.string p1.Kind,pv1_0] 47 (0,0))] [ob s.2.2.1]) (fun m s=>cS N p0 p1 p2 m s.2.1 s.2.2.2=some r∧(OSl bi 177 4 s.1 [] s.2.2.1 s.2.1)) (Φ_2,x2,v3,0) N ⟨h,h2⟩ (sx [0] [0]) (fun n1 ih1 s hm=>?_)
 obtain ⟨Φ_3,s1,u1,s2⟩:=s
 obtain ⟨h,k1⟩:=hm
 dsimp only at h k1 ⊢
 unfold cS at h
 refine att 5 [] rfl ?_
 refine ch h rfl ?_ ?_ <;> intro h
 ·refine atr 6 [] rfl ?_
  obtain ⟨x3,hx3,h⟩:=bs h
  obtain ⟨cs1,F3,-,g1,hb1,hs1,r1⟩:=ph0_0.el (a9 hx3).2.2
  obtain ⟨rfl,-⟩:=r1
  refine lia ph0_0 hx3 rfl<|lhx 0 5 g1 rfl<|lnz iu rfl fun b_3=>la rfl<|soN 0 gy rfl ⟨rfl,rfl,rfl,rfl,rfl,trivial⟩ rfl ?_
  refine arr 6 [1,32] rfl ?_
  obtain ⟨x4,hx4,h⟩:=bs h
  obtain ⟨cs2,F4,-,g2,hb2,hs2,r2⟩:=ph1_0.el (a9 hx4).2.2
  obtain ⟨rfl,-⟩:=r2
  refine lia ph1_0 hx4 rfl<|lhx 0 3 g2 rfl<|lnz jk rfl fun b_4=>soN 0 qZ rfl ⟨rfl,rfl,rfl,trivial⟩ rfl ?_
  refine art 12 [0,32] rfl ?_
  refine ch h rfl ?_ ?_ <;> intro h
  ·refine atr 5 [2,35,3] rfl<|lq (te mK rfl rfl rfl (r:=bo x3.V x4) rfl) rfl<|en ?_
   refine ch h rfl ?_ ?_ <;> intro h
   ·refine sr<|la rfl<|kab h rfl rfl rfl (fun b z q=>cX N b p2 (ph2.y z) q) ?_
    rintro x5 h v5 Φ_4 F5 ⟨ap3,fr3,v6,rfl,rfl,h3⟩
    refine art 3 [] rfl ?_
    exact rtg [0] hF (az.two rfl rfl) rfl (by cases h; exact fun w1 hw=>⟨v5,rfl,rfl,h3⟩)
   refine att 7 [] rfl ?_
   exact lb [0] [2] (ih1 (_,_,_,_) ⟨h,k1⟩)
  refine att 5 [] rfl ?_
  refine ch h rfl ?_ ?_ <;> intro h
  ·refine atr 5 [1,32] rfl<|qc h (vT N · s1 x3.S k1.rsl ·) rfl rfl rfl fun x6 h=>arr 3 [] rfl<|lnz jk rfl fun b_5=>soN 0 qZ rfl ⟨rfl,rfl,rfl,trivial⟩ rfl ?_
   refine arr 7 [] rfl ?_
   obtain ⟨b2,hb_2,h⟩:=bs h
   refine WL.cutN 4 [(69,.bool b2),(2,pv2),(4,pQ b_2),(8,u1),(10,pQ b_3),(11,pQ b_4),(13,.bool x6.2),(33,pv0_0),(34,iV (p0.Args.length:Int)),(35,iV s2)] ?_ (fun K=>?_)
   rotate_left
   ·refine sp 65 hb_2 rfl (fun hb_2=>?_) fun hb_2=>?_
    ·refine arr 2 [3,35] rfl<|ly rfl rfl<|lq (te mK rfl rfl rfl (r:=bo x6.1 x4) rfl) rfl<|la rfl ?_
     cases hb_2
     exact ku K
    ·refine arr 4 [] rfl ?_
     cases hb_2
     exact ku K
   refine en ?_
   refine ch h rfl ?_ ?_ <;> intro h
   ·refine sr<|la rfl<|kab h rfl rfl rfl (fun b z q=>cX N b p2 (ph2.y z) q) ?_
    rintro x7 h v7 Φ_5 F6 ⟨ap4,fr4,v8,rfl,rfl,h4⟩
    refine art 3 [] rfl ?_
    exact rtg [0] hF (az.two rfl rfl) rfl (by cases h; exact fun w1 hw=>⟨v7,rfl,rfl,h4⟩)
   refine att 6 [] rfl ?_
   refine ch h rfl ?_ ?_ <;> intro h
   ·refine atr 5 [1,64,35] rfl<|lq (aQ (vs:=[(0,.string x3.S),(1,.agg [iV x4.K,iV x4.N,.string x4.S].toArray)]) (C:=#[.string x3.S,iV x4.K,iV x4.N,.string x4.S]) BI pn rfl (a7 (C':=[.string x3.S,iV 0,iV 0,.string ⟨#[]⟩]) rfl rfl rfl rfl rfl (a7 (C':=[.string x3.S,iV x4.K,iV x4.N,.string x4.S]) rfl rfl rfl rfl rfl (aa)))) rfl ?_
    have rc1:RC bi 4 Φ_3 ([[]]:List (List Nat)) [.string x3.S,iV x4.K,iV x4.N,.string x4.S] ([(⟨x3.S,x4⟩:aD)]:List aD):=RC.cons (c:=[.string x3.S,iV x4.K,iV x4.N,.string x4.S]) (cells:=[]) ⟨rfl,rfl⟩ rfl (RC.nil _ _ _)
    refine le' (aY (vs:=[(0,.agg [.string x3.S,iV x4.K,iV x4.N,.string x4.S].toArray)]) (C:=#[.string x3.S,iV x4.K,iV x4.N,.string x4.S]) bi.lasts kL pn rfl rfl rfl rfl (ag yc (a7 (C':=[.string x3.S,iV x4.K,iV x4.N,.string x4.S]) rfl rfl rfl rfl rfl (aa))) rfl rc1 rfl (by simpa using Kw.nil)) rfl ?_
    rintro v9 Φ_6 D1 ⟨fr5,h5⟩
    replace h5:OSl bi 177 4 Φ_6 [] v9 ([(⟨x3.S,x4⟩:aD)]:List aD):=by simpa using h5
    replace k1:=k1.f0 fr5
    obtain ⟨x8,hx8,h⟩:=bs h
    refine le' (bB bi.lasts bi.one bi.flat kL uT rfl rfl rfl rfl rfl (js:=[1]) (Rr:=[ob v9]) rfl k1 h5.rsl hx8) rfl ?_
    rintro v10 Φ_7 D2 ⟨⟨ap5,fr6⟩,h6⟩
    refine art 8 [] rfl ?_
    exact lb [0] [3] (ih1 (_,_,_,_) ⟨h,h6⟩)
   refine att 7 [] rfl ?_
   exact lb [0] [3] (ih1 (_,_,_,_) ⟨h,k1⟩)
  refine att 7 [] rfl ?_
  exact lb [0] [2] (ih1 (_,_,_,_) ⟨h,k1⟩)
 refine att 7 [] rfl ?_
 exact rtg [0] hF (az.two rfl rfl) rfl (by cases h; exact fun w1 hw=>⟨u1,rfl,rfl,k1⟩)
theorem qw (w0:aw Ψ Φ []) (p0:(List av)) (p1:ah) (p2:(List Int)) (ph0:RSl bW 3 Ψ pG0 pv0 p0) (ph1_0:RSl bh 3 Ψ pG1_0 pv1_0 p1.Items) (ph2:RSl (RI .i64) 1 Ψ pG2 pv2 p2) {r:(List aD) × Bool} (h:jC N p0 p1 p2=some r) :
  Calls prog 76 [pv0,.agg [pv1_0,iV p1.Next].toArray,pv2].toArray w0.w (bg Φ w0.w [] (fun Φ' Fs v=>∃ (sr_0_0:Value),v = .tuple #[sr_0_0,.bool r.2]∧Fs=[ob sr_0_0]∧OSl bi 177 4 Φ' [] sr_0_0 r.1)):=by
 refine eN func76 rfl ntmps76 rfl w0 fun hF=>?_
 unfold jC at h
 refine sr<|lbx rfl fun b_1=>arr 11 [] rfl<|lnr ph2 rfl<|art 3 [] rfl<|wtS ?_
 have k1:=OSl.nil bi 177 4 Φ
 refine lin (σ:=Hp × (List aD) × Value × Int) (fun s=>[(0,pv0),(4,pQ b_1),(8,s.2.2.1),(13,pv2),(14,iV (p2.length:Int)),(15,iV s.2.2.2)]) (fun s=>St w0 s.1 [(b_1,.cells #[pv1_0,iV p1.Next] 37 (0,0))] [ob s.2.2.1]) (fun m s=>fy N p0 p1 p2 m s.2.1 s.2.2.2=some r∧(OSl bi 177 4 s.1 [] s.2.2.1 s.2.1)) (Φ,([]:List aD),(.slice none 0 0),0) N ⟨h,k1⟩ (sx [0] [0]) (fun n1 ih1 s hm=>?_)
 obtain ⟨Φ_1,s1,u1,s2⟩:=s
 obtain ⟨h,k2⟩:=hm
 dsimp only at h k2 ⊢
 unfold fy at h
 refine att 5 [] rfl ?_
 refine ch h rfl ?_ ?_ <;> intro h
 ·refine atr 6 [] rfl ?_
  obtain ⟨x1,hx1,h⟩:=bs h
  obtain ⟨cs1,F1,-,g1,hb1,hs1,r1⟩:=ph2.el (a9 hx1).2.2
  obtain ⟨rfl,-⟩:=r1
  refine lia ph2 hx1 rfl<|lhx 0 0 g1 rfl<|arr 7 [2] rfl<|kab h rfl rfl rfl (fun b z q=>jl N b p1 x1 (ph1_0.y z) q) ?_
  rintro x2 h v1 Φ_2 F2 ⟨ap1,fr1,v2,rfl,rfl,h1⟩
  replace k2:=k2.fr fr1 (ap1.q 0 rfl) dN
  refine arr 3 [] rfl<|lnz j9 rfl fun b_2=>soN 0 jL rfl ⟨rfl,h1.one,trivial⟩ rfl ?_
  refine art 8 [] rfl ?_
  refine ch h rfl ?_ ?_ <;> intro h
  ·refine att 5 [] rfl ?_
   refine WT.ret hF (az.two rfl rfl) (fun w1 hw=>?_)
   cases h
   replace hw:=hw.addNil
   refine bc (js:=[0]) hw rfl ⟨.slice none 0 0,rfl,rfl,OSl.nil _ _ _ _⟩
  refine att 2 [] rfl<|wm [0,1] [] rfl<|amm 2 [0,1] [0,1] rfl rfl ?_
  obtain ⟨x3,hx3,h⟩:=bs h
  obtain ⟨cs2,F3,-,g2,hb2,hs2,r2⟩:=ph0.el (a9 hx3).2.2
  obtain ⟨v3,G1,rfl,hq1,h2⟩:=r2
  obtain rfl:=hq1.symm
  refine mq 2 rfl (by kernel_rfl) (kN [0,1]) (ac o7 rfl rfl ph0 hx3) rfl<|mq 3 rfl (by kernel_rfl) (kN [0,1]) (aI ve rfl (fun w1 hw=>(g2.of_eq 0 3 rfl rfl:rg _ _ _ [.string x3.Kind,v3,.bool x3.Not]).rangeAt hw.1) rfl) rfl<|amm 2 [4,2,5] [0,1] rfl rfl ?_
  obtain ⟨x4,hx4,h⟩:=bs h
  refine WM.one 6 (by kernel_rfl) (mc rfl (fun _ v Φx D w1 hq hw=>Kn.of Kf.nil (ai2 0 1 rfl rfl) hw) (bZ (js:=[]) (R:=[ob v2,ob u1]) El rfl rfl (fun w1 hw ap hl=>m8 N (ba hw.fro) x3 x2.1 s1 (h2.y hw.up) h1.rsl k2.rsl  hx4)) rfl ?_)
  rintro v4 Φ_3 F4 ⟨ap2,fr2,v5,rfl,rfl,h3⟩
  replace k2:=k2.fr fr2 (ap2.q 1 rfl) dN
  refine amm 5 [7,8,9,10,11] [0,1] rfl rfl<|WM.nil (by kernel_rfl)<|att 5 [] rfl ?_
  refine ch h rfl ?_ ?_ <;> intro h
  ·refine att 5 [] rfl ?_
   refine WT.ret hF (az.two rfl rfl) (fun w1 hw=>?_)
   cases h
   replace hw:=hw.addNil
   refine bc (js:=[0]) hw rfl ⟨.slice none 0 0,rfl,rfl,OSl.nil _ _ _ _⟩
  refine att 6 [] rfl ?_
  exact lb [0] [1] (ih1 (_,_,_,_) ⟨h,h3⟩)
 refine att 7 [] rfl ?_
 exact rtg [0] hF (az.two rfl rfl) rfl (by cases h; exact fun w1 hw=>⟨u1,rfl,rfl,k2⟩)
theorem qM (w0:aw Ψ Φ [ob pv1,pD1].flatten) (p0:cj) (p1:(List af)) (p2:Int) (ph0_0:RSl bW 3 Ψ pG0_0 pv0_0 p0.pos) (ph0_1:RSl bW 3 Ψ pG0_1 pv0_1 p0.neg) (ph0_2:RSl (RI .i64) 1 Ψ pG0_2 pv0_2 p0.chain.Pos) (ph0_3:RSl (RI .i64) 1 Ψ pG0_3 pv0_3 p0.chain.Neg) (ph0_4:RSl gp 1 Ψ pG0_4 pv0_4 p0.alphas) (ph0_5:RSl bh 3 Ψ pG0_5 pv0_5 p0.s.Items) (ph1:OSl aq 103 2 Φ pD1 pv1 p1) {r:(List af)} (h:ft N p0 p1 p2=some r) :
  Calls prog 50 [.agg [pv0_0,pv0_1,pv0_2,pv0_3,pv0_4,pv0_5,iV p0.s.Next,iV p0.id].toArray,pv1,iV p2].toArray w0.w (bg Φ w0.w [ob pv1,pD1].flatten (fun Φ' Fs v=>∃ (Do_0_0:List Nat),v = .tuple #[]∧Fs=[ob pv1,Do_0_0]∧OSl aq 103 2 Φ' Do_0_0 pv1 r)):=by
 refine eL func50 rfl ntmps50 rfl (L:=[ob pv1,pD1]) w0 (fun hF=>?_)
 unfold ft at h
 refine sr<|lbx rfl fun b_1=>arr 7 [5,2,7,0] rfl<|kab h rfl rfl rfl (fun b z q=>jl N b p0.s p0.id (ph0_5.y z) q) ?_
 rintro x1 h v1 Φ_1 F1 ⟨ap1,fr1,v2,rfl,rfl,h1⟩
 replace ph1:=ph1.fr fr1 (ap1.q 0 rfl) (ap1.q 1 rfl)
 refine arr 3 [] rfl<|lnz j9 rfl fun b_2=>soN 0 jL rfl ⟨rfl,h1.one,trivial⟩ rfl ?_
 refine arr 5 [] rfl<|lno ph1 rfl<|art 3 [] rfl ?_
 refine lin (σ:=Hp × (List af) × List Nat × Int) (fun s=>[(2,iV p2),(3,pQ b_1),(6,pQ b_2),(24,pv1),(25,iV (p1.length:Int)),(26,iV s.2.2.2)]) (fun s=>St w0 s.1 [(b_2,.cells #[.string x1.1.Kind,v2] 47 (0,0)),(b_1,.cells #[pv0_0,pv0_1,pv0_2,pv0_3,pv0_4,pv0_5,iV p0.s.Next,iV p0.id] 110 (0,0))] [ob v2,ob pv1,s.2.2.1]) (fun m s=>bA N p0 p1 p2 x1 m s.2.1 s.2.2.2=some r∧(OSl aq 103 2 s.1 s.2.2.1 pv1 s.2.1)∧(OSl aH 91 3 s.1 [] v2 x1.1.Fields)) (Φ_1,p1,pD1,0) N ⟨h,ph1,h1⟩ (sx [0,0,0] [0,0]) (fun n1 ih1 s hm=>?_)
 obtain ⟨Φ_2,s1,D1,s2⟩:=s
 obtain ⟨h,k1,h1⟩:=hm
 dsimp only at h k1 h1 ⊢
 unfold bA at h
 refine att 5 [] rfl ?_
 refine ch h rfl ?_ ?_ <;> intro h
 ·refine atr 5 [] rfl ?_
  obtain ⟨x2,hx2,h⟩:=bs h
  obtain ⟨cs1,F2,D2,h2,r1,kf1,sp1⟩:=k1.focus hx2
  obtain ⟨v3,v4,rfl,rfl,h3,h4⟩:=r1
  refine wlL [ob v3,ob v4,D2,ob v2,ob pv1] (sre [2] [ob v3,ob v4,D2] rfl (by simpa [List.append_assoc] using sp1))<|lih h2 hx2 rfl<|lgx 0 2 h2.rg rfl<|lnz dJ rfl fun b_3=>soN 0 qy rfl ⟨h3.one,h4.one,trivial⟩ rfl ?_
  refine arr 9 [0,64,5,66,0,0] rfl<|kab h rfl rfl rfl (fun b z q=>qw N b p0.pos p0.s x2.Ids (ph0_0.y z) (ph0_5.y z) h3.rsl q) ?_
  rintro x3 h v5 Φ_3 F3 ⟨ap2,fr2,v6,rfl,rfl,h5⟩
  replace h2:=h2.fr fr2 (ap2.q 4 rfl) (ap2.q 2 rfl)
  replace h1:=h1.fr fr2 (ap2.q 3 rfl) dN
  replace h3:=h3.fr fr2 (ap2.q 0 rfl) dN
  replace h4:=h4.fr fr2 (ap2.q 1 rfl) dN
  refine art 12 [] rfl ?_
  refine ch h rfl ?_ ?_ <;> intro h
  ·refine att 5 [] rfl ?_
   have r2:aq Φ_3 _ [v3,v4] x2:=⟨v3,v4,rfl,rfl,h3,h4⟩
   obtain ⟨D3,h6,sp2⟩:=h2.unfocus r2 (aq.knows _ _ _ _ r2)
   rw [BL hx2] at h6
   refine wtL [D3,ob v6,ob v2,ob pv1] (smg [1,1,1] rfl (by simpa [List.append_assoc,bv] using sp2)) ?_
   exact lb [2,2,0] [1,1] (ih1 (_,_,_,_) ⟨h,h6,h1⟩)
  refine atr 5 [1,64] rfl<|lnr ph0_1 rfl<|art 3 [] rfl ?_
  refine lin (σ:=Hp × (List Int) × Int) (fun s=>[(2,iV p2),(3,pQ b_1),(6,pQ b_2),(9,pQ b_3),(10,v6),(24,pv1),(25,iV (p1.length:Int)),(26,iV s2),(43,pv0_1),(44,iV (p0.neg.length:Int)),(45,iV s.2.2)]) (fun s=>St w0 s.1 [(b_3,.cells #[v3,v4] 103 (0,0)),(b_2,.cells #[.string x1.1.Kind,v2] 47 (0,0)),(b_1,.cells #[pv0_0,pv0_1,pv0_2,pv0_3,pv0_4,pv0_5,iV p0.s.Next,iV p0.id] 110 (0,0))] [ob v6,ob v3,ob v4,D2,ob v2,ob pv1]) (fun m s=>bM N p0 p2 x1 s1 s2 (bA N p0 p1 p2 x1 n1) x2 x3 m s.2.1 s.2.2=some r∧(OSl aH 91 3 s.1 [] v2 x1.1.Fields)∧(OSl (RI .i64) 3 1 s.1 [] v3 x2.Ids)∧(OSl (RI .i64) 3 1 s.1 [] v4 s.2.1)∧(OSl bi 177 4 s.1 [] v6 x3.1)∧(HSl aq 103 2 s.1 D2 pv1 s1 s2.toNat [v3,v4])) (Φ_3,x2.Hits,0) N ⟨h,h1,h3,h4,h5,h2⟩ (sx [0,0,0,0,0,0] [0,0,0]) (fun n2 ih2 s hm=>?_)
  obtain ⟨Φ_4,s3,s4⟩:=s
  obtain ⟨h,h1,h3,k3,h5,k2⟩:=hm
  dsimp only at h h1 h3 k3 h5 k2 ⊢
  unfold bM at h
  refine att 5 [] rfl ?_
  refine ch h rfl ?_ ?_ <;> intro h
  ·refine atr 6 [] rfl ?_
   obtain ⟨x4,hx4,h⟩:=bs h
   obtain ⟨cs2,F4,-,g1,hb2,hs1,r3⟩:=ph0_1.el (a9 hx4).2.2
   obtain ⟨v7,G1,rfl,hq1,h7⟩:=r3
   obtain rfl:=hq1.symm
   refine lia ph0_1 hx4 rfl<|lhx 0 3 g1 rfl<|lnz jY rfl fun b_4=>la rfl<|soN 0 od rfl ⟨rfl,h7.one,rfl,trivial⟩ rfl ?_
   refine arr 6 [3,66] rfl<|kab h rfl rfl rfl (fun b z q=>m8 N b x4 x1.1 x3.1 (h7.y z) h1.rsl h5.rsl q) ?_
   rintro x5 h v8 Φ_5 F5 ⟨ap3,fr3,v9,rfl,rfl,h8⟩
   replace k2:=k2.fr fr3 (ap3.q 5 rfl) (ap3.q 3 rfl)
   replace h1:=h1.fr fr3 (ap3.q 4 rfl) dN
   replace h3:=h3.fr fr3 (ap3.q 1 rfl) dN
   replace k3:=k3.fr fr3 (ap3.q 2 rfl) dN
   replace h5:=h5.fr fr3 (ap3.q 0 rfl) dN
   refine art 10 [] rfl ?_
   refine ch h rfl ?_ ?_ <;> intro h
   ·refine atr 4 [1,32] rfl ?_
    obtain ⟨x6,hx6,h⟩:=bs h
    obtain ⟨cs3,F6,-,g2,hb3,hs2,r4⟩:=k3.elS (a9 hx6).2.2
    obtain ⟨rfl,-⟩:=r4
    refine lio k3 hx6 rfl<|lgx 0 0 g2 rfl<|arr 2 [] rfl ?_
    obtain ⟨x7,hx7,h⟩:=bs h
    obtain ⟨cs4,F7,-,g3,hb4,hs3,r5⟩:=k3.elS (a9 hx7).2.2
    obtain ⟨rfl,-⟩:=r5
    refine lio k3 hx7 rfl<|lu (yR (js:=[3]) (Rr:=[ob v9,ob v6,ob v3,D2,ob v2,ob pv1]) (vs:=[iV (wz (x6+p2))]) (x':=wz (x6+p2)) RI.lasts RI.flat wQ rfl rfl rfl rfl ⟨rfl,trivial⟩ rfl k3 (rA hx7) ⟨rfl,rfl⟩) rfl ?_
    rintro Φ_6 D4 ⟨⟨ap4,fr4⟩,h9⟩
    replace k2:=k2.fr fr4 (ap4.q 5 rfl) (ap4.q 3 rfl)
    replace h1:=h1.fr fr4 (ap4.q 4 rfl) dN
    replace h3:=h3.fr fr4 (ap4.q 2 rfl) dN
    replace h5:=h5.fr fr4 (ap4.q 1 rfl) dN
    refine art 6 [] rfl ?_
    exact lb [2,2,0,1,1,1] [1,1,1] (ih2 (_,_,_) ⟨h,h1,h3,h9,h5,k2⟩)
   refine att 6 [] rfl ?_
   exact lb [1,1,1,1,1,1] [1,1,1] (ih2 (_,_,_) ⟨h,h1,h3,k3,h5,k2⟩)
  refine att 6 [] rfl ?_
  have r6:aq Φ_4 _ [v3,v4] (⟨x2.Ids,s3⟩:af):=⟨v3,v4,rfl,rfl,h3,k3⟩
  obtain ⟨D5,h10,sp3⟩:=k2.unfocus r6 (aq.knows _ _ _ _ r6)
  refine wtL [D5,ob v6,ob v2,ob pv1] (smg [1,1,1] rfl (by simpa [List.append_assoc,bv] using sp3)) ?_
  exact lb [2,2,0] [1,1] (ih1 (_,_,_,_) ⟨h,h10,h1⟩)
 refine xt rfl ?_
 refine WT.fin hF az.none (fun w1 hw=>?_)
 cases h
 refine bc (js:=[1,1]) hw rfl ⟨D1,rfl,rfl,k1⟩
theorem vu (w0:aw Ψ Φ []) (p0:av) (p1:ah) (p2:(List aD)) (ph0_0:RSl du 5 Ψ pG0_0 pv0_0 p0.Args) (ph1_0:RSl bh 3 Ψ pG1_0 pv1_0 p1.Items) (ph2:RSl bi 4 Ψ pG2 pv2 p2) {r:Int} (h:ng N p0 p1 p2=some r) :
  CB w0 prog 113 [.agg [.string p0.Kind,pv0_0,.bool p0.Not].toArray,.agg [pv1_0,iV p1.Next].toArray,pv2] (iV r):=by
 refine eN func113 rfl ntmps113 rfl w0 fun hF=>?_
 unfold ng at h
 refine sr<|lbx rfl fun b_1=>lbx rfl fun b_2=>arr 11 [0,0] rfl<|lnr ph1_0 rfl<|art 3 [] rfl ?_
 refine lin (σ:=Hp × Int × Int) (fun s=>[(2,pv2),(3,pQ b_1),(7,iV s.2.1),(13,pv1_0),(14,iV (p1.Items.length:Int)),(15,iV s.2.2)]) (fun s=>St w0 s.1 [(b_1,.cells #[.string p0.Kind,pv0_0,.bool p0.Not] 128 (0,0))] []) (fun m s=>dV N p0 p1 p2 m s.2.1 s.2.2=some r) (Φ,0,0) N h (sx [] [1]) (fun n1 ih1 s hm=>?_)
 obtain ⟨Φ_1,s1,s2⟩:=s
 have h:dV N p0 p1 p2 (n1+1) s1 s2=some r:=hm
 show WT _ _ [(2,pv2),(3,pQ b_1),(7,iV s1),(13,pv1_0),(14,iV (p1.Items.length:Int)),(15,iV s2)] (St w0 Φ_1 [(b_1,.cells #[.string p0.Kind,pv0_0,.bool p0.Not] 128 (0,0))] [])
 unfold dV at h
 refine att 5 [] rfl ?_
 refine ch h rfl ?_ ?_ <;> intro h
 ·refine atr 5 [] rfl ?_
  obtain ⟨x1,hx1,h⟩:=bs h
  obtain ⟨cs1,F1,-,g1,hb1,hs1,r1⟩:=ph1_0.el (a9 hx1).2.2
  obtain ⟨v1,G1,rfl,hq1,h1⟩:=r1
  obtain rfl:=hq1.symm
  refine lia ph1_0 hx1 rfl<|lhx 0 3 g1 rfl<|lnz sm rfl fun b_3=>soN 0 xZ rfl ⟨rfl,rfl,h1.one,trivial⟩ rfl ?_
  refine arr 7 [35,1,2] rfl<|kab h rfl rfl rfl (fun b z q=>m8 N b p0 x1.F p2 (ph0_0.y z) (h1.y z) (ph2.y z) q) ?_
  rintro x2 h v2 Φ_2 F2 ⟨ap1,fr1,v3,rfl,rfl,h2⟩
  refine art 10 [] rfl ?_
  refine ch h rfl ?_ ?_ <;> intro h
  ·refine att 10 [] rfl ?_
   exact lb [] [1] (ih1 (_,_,_) h)
  refine att 6 [] rfl ?_
  exact lb [] [1] (ih1 (_,_,_) h)
 refine att 6 [] rfl ?_
 exact rt hF h
theorem iP (w0:aw Ψ Φ []) (p0:cj) (p1:(List Int)) (p2:(List Int)) (ph0_0:RSl bW 3 Ψ pG0_0 pv0_0 p0.pos) (ph0_1:RSl bW 3 Ψ pG0_1 pv0_1 p0.neg) (ph0_2:RSl (RI .i64) 1 Ψ pG0_2 pv0_2 p0.chain.Pos) (ph0_3:RSl (RI .i64) 1 Ψ pG0_3 pv0_3 p0.chain.Neg) (ph0_4:RSl gp 1 Ψ pG0_4 pv0_4 p0.alphas) (ph0_5:RSl bh 3 Ψ pG0_5 pv0_5 p0.s.Items) (ph1:RSl (RI .i64) 1 Ψ pG1 pv1 p1) (ph2:RSl (RI .i64) 1 Ψ pG2 pv2 p2) {r:(List af)} (h:dm N p0 p1 p2=some r) :
  Calls prog 78 [.agg [pv0_0,pv0_1,pv0_2,pv0_3,pv0_4,pv0_5,iV p0.s.Next,iV p0.id].toArray,pv1,pv2].toArray w0.w (bg Φ w0.w [] (fun Φ' Fs v=>∃ (sr_0_0:Value) (Dr_0_0:List Nat),v=sr_0_0∧Fs=[ob sr_0_0,Dr_0_0]∧OSl aq 103 2 Φ' Dr_0_0 sr_0_0 r)):=by
 refine eN func78 rfl ntmps78 rfl w0 fun hF=>?_
 unfold dm at h
 refine sr<|lbx rfl fun b_1=>arr 10 [] rfl<|lnr ph2 rfl<|art 3 [] rfl<|wtS<|wt0 ?_
 have k1:=OSl.nil aq 103 2 Φ
 refine lin (σ:=Hp × (List af) × Value × List Nat × Int) (fun s=>[(1,pv1),(3,pQ b_1),(7,s.2.2.1),(16,pv2),(17,iV (p2.length:Int)),(18,iV s.2.2.2.2)]) (fun s=>St w0 s.1 [(b_1,.cells #[pv0_0,pv0_1,pv0_2,pv0_3,pv0_4,pv0_5,iV p0.s.Next,iV p0.id] 110 (0,0))] [s.2.2.2.1,ob s.2.2.1]) (fun m s=>bp N p0 p1 p2 m s.2.1 s.2.2.2.2=some r∧(OSl aq 103 2 s.1 s.2.2.2.1 s.2.2.1 s.2.1)) (Φ,([]:List af),(.slice none 0 0),[],0) N ⟨h,k1⟩ (sx [0,0] [0]) (fun n1 ih1 s hm=>?_)
 obtain ⟨Φ_1,s1,u1,D1,s2⟩:=s
 obtain ⟨h,k2⟩:=hm
 dsimp only at h k2 ⊢
 unfold bp at h
 refine att 5 [] rfl ?_
 refine ch h rfl ?_ ?_ <;> intro h
 ·refine atr 5 [] rfl ?_
  obtain ⟨x1,hx1,h⟩:=bs h
  obtain ⟨cs1,F1,-,g1,hb1,hs1,r1⟩:=ph2.el (a9 hx1).2.2
  obtain ⟨rfl,-⟩:=r1
  refine lia ph2 hx1 rfl<|lhx 0 0 g1 rfl<|arr 5 [] rfl<|kab h rfl rfl rfl (fun b z q=>eV N b p1 (ph1.y z) q) ?_
  rintro x2 h v1 Φ_2 F2 ⟨ap1,fr1,v2,rfl,rfl,h1⟩
  replace k2:=k2.fr fr1 (ap1.q 1 rfl) (ap1.q 0 rfl)
  refine la rfl ?_
  have rc1:RC (RI .i64) 1 Φ_2 ([[]]:List (List Nat)) [iV x1] ([x1]:List Int):=RC.cons (c:=[iV x1]) (cells:=[]) ⟨rfl,rfl⟩ rfl (RC.nil _ _ _)
  refine le' (aY (vs:=[(0,iV x1)]) (C:=#[iV x1]) RI.lasts aW gB rfl rfl rfl rfl (ag iy (a7 (C':=[iV x1]) rfl rfl rfl rfl rfl (aa))) rfl rc1 rfl (by simpa using Kw.nil)) rfl ?_
  rintro v3 Φ_3 D2 ⟨fr2,h2⟩
  replace h2:OSl (RI .i64) 3 1 Φ_3 [] v3 ([x1]:List Int):=by simpa using h2
  replace k2:=k2.f0 fr2
  replace h1:=h1.f0 fr2
  obtain ⟨x3,hx3,h⟩:=bs h
  refine le' (bB RI.lasts RI.one RI.flat aW jw rfl rfl rfl rfl rfl (js:=[1]) (Rr:=[ob v3,D1,ob u1]) rfl h1 h2.rsl hx3) rfl ?_
  rintro v4 Φ_4 D3 ⟨⟨ap2,fr3⟩,h3⟩
  replace k2:=k2.fr fr3 (ap2.q 2 rfl) (ap2.q 1 rfl)
  refine arr 9 [0,0,5,2] rfl<|kab h rfl rfl rfl (fun b z q=>qw N b p0.pos p0.s x3 (ph0_0.y z) (ph0_5.y z) h3.rsl q) ?_
  rintro x4 h v5 Φ_5 F3 ⟨ap3,fr4,v6,rfl,rfl,h4⟩
  replace k2:=k2.fr fr4 (ap3.q 3 rfl) (ap3.q 2 rfl)
  replace h3:=h3.fr fr4 (ap3.q 0 rfl) dN
  refine art 12 [] rfl ?_
  refine ch h rfl ?_ ?_ <;> intro h
  ·refine att 5 [] rfl ?_
   exact lb [3,3] [0] (ih1 (_,_,_,_,_) ⟨h,k2⟩)
  refine atr 4 [] rfl<|lq (aQ (vs:=[(0,v4)]) (C:=#[v4,.slice none 0 0]) rH dJ rfl (a7 (C':=[v4,.slice none 0 0]) rfl (bt h3.one) rfl rfl rfl (aa))) rfl<|lnz dJ rfl fun b_2=>soN 0 qy rfl ⟨h3.one,rfl,trivial⟩ rfl ?_
  refine arr 5 [] rfl<|lno h3 rfl<|arr 2 [0,32] rfl<|lnr ph0_0 rfl<|la rfl<|en<|wtS ?_
  have k3:=OSl.nil (RI .i64) 3 1 Φ_5
  refine cut (σ:=Hp × (List Int) × Value) (fun s=>[(1,pv1),(3,pQ b_1),(7,u1),(13,pQ b_2),(16,pv2),(17,iV (p2.length:Int)),(18,iV s2)]) (fun s=>St w0 s.1 [(b_2,.cells #[v4,s.2.2] 103 (0,0)),(b_1,.cells #[pv0_0,pv0_1,pv0_2,pv0_3,pv0_4,pv0_5,iV p0.s.Next,iV p0.id] 110 (0,0))] [ob s.2.2,ob v4,D1,ob u1]) (fun s=>bR N s1 s2 (bp N p0 p1 p2 n1) x3 s.2.1=some r∧(OSl aq 103 2 s.1 D1 u1 s1)∧(OSl (RI .i64) 3 1 s.1 [] v4 x3)∧(OSl (RI .i64) 3 1 s.1 [] s.2.2 s.2.1)) (fun s hm=>?_) (fun K=>?_)
  ·clear h
   obtain ⟨Φ_6,s3,u2⟩:=s
   obtain ⟨h,k2,h3,k4⟩:=hm
   dsimp only at h k2 h3 k4 ⊢
   unfold bR at h
   refine atr 3 [2] rfl ?_
   have rc2:RC aq 2 Φ_6 ([(ob v4++[])++((ob u2++[]))]:List (List Nat)) [v4,u2] ([(⟨x3,s3⟩:af)]:List af):=RC.cons (c:=[v4,u2]) (cells:=[]) ⟨v4,u2,rfl,rfl,h3,k4⟩ rfl (RC.nil _ _ _)
   refine le' (aY (vs:=[(0,.agg [v4,u2].toArray)]) (C:=#[v4,u2]) aq.lasts cM dJ rfl rfl rfl rfl (ag lT (a7 (C':=[v4,u2]) rfl rfl rfl rfl rfl (aa))) rfl rc2 rfl (RC.kn aq.knows rc2)) rfl ?_
   rintro v7 Φ_7 D4 ⟨fr5,h5⟩
   replace h5:OSl aq 103 2 Φ_7 ((ob v4++[])++((ob u2++[]))) v7 ([(⟨x3,s3⟩:af)]:List af):=by simpa [List.append_assoc] using h5
   replace k2:=k2.f0 fr5
   refine wlL [((ob v4++[])++((ob u2++[]))),ob v7,D1,ob u1] (smg [2,1] rfl (SP.eq (by simp [List.append_assoc,bv]))) ?_
   obtain ⟨x5,hx5,h⟩:=bs h
   refine le' (bU aq.lasts aq.one cM km rfl rfl rfl rfl rfl (js:=[3]) (Rr:=[((ob v4++[])++((ob u2++[]))),ob v7,D1]) rfl k2 h5 (fun ap=>ap.q 2 rfl) (fun ap=>ap.q 0 rfl) hx5) rfl ?_
   rintro v8 Φ_8 D5 ⟨⟨ap4,fr6⟩,h6⟩
   refine wlL [(D1++((ob v4++[])++((ob u2++[])))),ob v8,ob v7] (smg [3,1] rfl (SP.eq (by simp)))<|art 7 [] rfl ?_
   exact lb [0,0] [1] (ih1 (_,_,_,_,_) ⟨h,h6⟩)
  refine ch h rfl ?_ ?_ <;> intro h
  ·refine atr 4 [1,32] rfl<|lnr ph0_1 rfl<|art 3 [] rfl ?_
   refine lin (σ:=Hp × (List Int) × Value × Int) (fun s=>[(1,pv1),(3,pQ b_1),(7,u1),(11,v6),(13,pQ b_2),(16,pv2),(17,iV (p2.length:Int)),(18,iV s2),(47,pv0_1),(48,iV (p0.neg.length:Int)),(49,iV s.2.2.2)]) (fun s=>St w0 s.1 [(b_2,.cells #[v4,s.2.2.1] 103 (0,0)),(b_1,.cells #[pv0_0,pv0_1,pv0_2,pv0_3,pv0_4,pv0_5,iV p0.s.Next,iV p0.id] 110 (0,0))] [ob s.2.2.1,ob v6,ob v4,D1,ob u1]) (fun m s=>bT N p0 s1 s2 (bp N p0 p1 p2 n1) x3 x4 m s.2.1 s.2.2.2=some r∧(OSl aq 103 2 s.1 D1 u1 s1)∧(OSl (RI .i64) 3 1 s.1 [] v4 x3)∧(OSl bi 177 4 s.1 [] v6 x4.1)∧(OSl (RI .i64) 3 1 s.1 [] s.2.2.1 s.2.1)) (Φ_5,([]:List Int),(.slice none 0 0),0) N ⟨h,k2,h3,h4,k3⟩ (sx [0,0,0,1,1] [0,0]) (fun n3 ih3 s hm=>?_)
   obtain ⟨Φ_9,s4,u3,s5⟩:=s
   obtain ⟨h,k2,h3,h4,k5⟩:=hm
   dsimp only at h k2 h3 h4 k5 ⊢
   unfold bT at h
   refine att 5 [] rfl ?_
   refine ch h rfl ?_ ?_ <;> intro h
   ·refine atr 5 [] rfl ?_
    obtain ⟨x6,hx6,h⟩:=bs h
    obtain ⟨cs2,F4,-,g2,hb2,hs2,r2⟩:=ph0_1.el (a9 hx6).2.2
    obtain ⟨v9,G1,rfl,hq1,h7⟩:=r2
    obtain rfl:=hq1.symm
    refine lia ph0_1 hx6 rfl<|lhx 0 3 g2 rfl<|lnz jY rfl fun b_3=>soN 0 od rfl ⟨rfl,h7.one,rfl,trivial⟩ rfl ?_
    refine en<|wm [0,1,2] [10] rfl<|amm 6 [0,1,1,32,2,3,3,5,4,66,5] [0,1,2] rfl rfl ?_
    obtain ⟨x7,hx7,h⟩:=bs h
    refine on1 6 (mp rfl (kS [0,1,2]) (pzP rfl (fun b z=>vu N b x6 p0.s x4.1 (h7.y z) (ph0_5.y z) h4.rsl hx7)) rfl ?_)
    have rc3:RC (RI .i64) 1 Φ_9 ([[]]:List (List Nat)) [iV x7] ([x7]:List Int):=RC.cons (c:=[iV x7]) (cells:=[]) ⟨rfl,rfl⟩ rfl (RC.nil _ _ _)
    refine WM.one 7 (by kernel_rfl) (me rfl (fun _ v Φx D w1 hq hw=>Kn.of Kf.nil (ai3 0 1 2 rfl rfl rfl) hw) (aY (vs:=[(0,iV x7)]) (C:=#[iV x7]) RI.lasts aW gB rfl rfl rfl rfl (ag iy (a7 (C':=[iV x7]) rfl rfl rfl rfl rfl (aa))) rfl rc3 rfl (by simpa using Kw.nil)) rfl ?_)
    rintro v10 Φ_10 D6 ⟨fr7,h8⟩
    replace h8:OSl (RI .i64) 3 1 Φ_10 [] v10 ([x7]:List Int):=by simpa using h8
    replace k2:=k2.f0 fr7
    replace h3:=h3.f0 fr7
    replace h4:=h4.f0 fr7
    replace k5:=k5.f0 fr7
    obtain ⟨x8,hx8,h⟩:=bs h
    refine WM.one 8 (by kernel_rfl) (me rfl (fun _ v Φx D w1 hq hw=>Kn.of Kf.nil (ai3 0 1 2 rfl rfl rfl) hw) (bB RI.lasts RI.one RI.flat aW jw rfl rfl rfl rfl rfl (js:=[1]) (Rr:=[ob v10,ob v6,ob v4,D1,ob u1]) rfl k5 h8.rsl hx8) rfl ?_)
    rintro v11 Φ_11 D7 ⟨⟨ap5,fr8⟩,h9⟩
    replace k2:=k2.fr fr8 (ap5.q 4 rfl) (ap5.q 3 rfl)
    replace h3:=h3.fr fr8 (ap5.q 2 rfl) dN
    replace h4:=h4.fr fr8 (ap5.q 1 rfl) dN
    refine amm 1 [9,1] [0,1,2] rfl rfl ?_
    refine on1 10 (ms1 1 rfl nk nU rfl h9.one ?_)
    refine WM.nil (by kernel_rfl)<|att 5 [] rfl ?_
    exact lb [0,1,1,1,1] [1,1] (ih3 (_,_,_,_) ⟨h,k2,h3,h4,h9⟩)
   refine xt rfl ?_
   exact wo [0,1,1,1] [0,0] (K (_,_,_) ⟨h,k2,h3,k5⟩)
  refine WT.skip ?_
  exact wo [0,1,2,2] [0,0] (K (_,_,_) ⟨h,k2,h3,k3⟩)
 refine att 6 [] rfl ?_
 exact rtg [1,0] hF (az.one rfl) rfl (by cases h; exact fun w1 hw=>⟨u1,D1,rfl,rfl,k2⟩)
theorem uv (w0:aw Ψ Φ []) (p0:(List af)) (ph0:RSl eF 2 Ψ pG0 pv0 p0) {r:(List af)} (h:jB N p0=some r) :
  Calls prog 79 [pv0].toArray w0.w (bg Φ w0.w [] (fun Φ' Fs v=>∃ (sr_0_0:Value) (Dr_0_0:List Nat),v=sr_0_0∧Fs=[ob sr_0_0]∧OSl eF 103 2 Φ' Dr_0_0 sr_0_0 r∧(∀ k∈Dr_0_0,k∈pG0))):=by
 refine eN func79 rfl ntmps79 rfl w0 fun hF=>?_
 unfold jB at h
 refine att 6 [] rfl ?_
 rcases RSl.nilOr ph0 with ⟨hxs1,cc1,hv1⟩ | ⟨a1,cc1,hv1⟩
 ·replace h:some []=some r:=by simpa [hxs1,app] using h
  refine atr 2 [] rfl<|lq (l5 cM (congrArg some hv1) rfl) rfl<|en ?_
  refine cd rfl (fun c=>?_) (fun c=>by simp at c)
  refine att 4 [] rfl ?_
  refine WT.ret hF (az.one rfl) (fun w1 hw=>?_)
  cases h
  replace hw:=hw.addNil
  refine bc (js:=[0]) hw rfl ⟨.slice none 0 0,[],rfl,rfl,OSl.nil _ _ _ _,(by simp)⟩
 refine atr 2 [] rfl<|lq (l5 cM (congrArg some hv1) rfl) rfl<|en ?_
 refine cd rfl (fun c=>by simp at c) (fun c=>?_)
 refine atr 3 [] rfl ?_
 have rc1:RC aq 2 Φ ([]:List (List Nat)) [] ([]:List af):=RC.nil _ _ _
 refine le' (aY (vs:=[]) (C:=#[]) aq.lasts cM dJ rfl rfl rfl rfl (ag oA (aa)) rfl rc1 rfl (by simpa using Kw.nil)) rfl ?_
 rintro v1 Φ_1 D1 ⟨fr1,h1⟩
 replace h1:OSl aq 103 2 Φ_1 [] v1 ([]:List af):=by simpa [List.append_assoc] using h1
 refine WL.conv (S':=St w0 Φ_1 [] [[],ob v1]) (fun w1 hw=>hw.addNil)<|la rfl<|lu0 ph0 fun h2=>?_
 obtain ⟨x1,hx1,h⟩:=bs h
 replace h1:=h1.gives aq.gives
 refine le' (E9 eF.lasts eF.knows eF.one cM km rfl rfl rfl rfl rfl (js:=[1]) (Rr:=[[]]) rfl h1 h2 (fun ap=>dN) (fun ap=>(ap.o ph0.old)) hx1) rfl ?_
 rintro v2 Φ_2 D2 ⟨⟨ap1,fr2⟩,hin1,h3⟩
 refine la rfl<|en ?_
 exact rtg [0] hF (az.one rfl) rfl (by cases h; exact fun w1 hw=>⟨v2,D2,rfl,rfl,h3,(fun k hk=>((fun k hk=>(by simpa using hin1 k hk:k∈pG0)) k hk))⟩)
theorem lV (w0:aw Ψ Φ []) (p0:(List af)) (ph0:OSl eF 103 2 Ψ pD0 pv0 p0) {r:(List af)} (h:dp N p0=some r) :
  Calls prog 79 [pv0].toArray w0.w (bg Φ w0.w [] (fun Φ' Fs v=>∃ (sr_0_0:Value) (Dr_0_0:List Nat),v=sr_0_0∧Fs=[ob sr_0_0]∧OSl eF 103 2 Φ' Dr_0_0 sr_0_0 r∧(∀ k∈Dr_0_0,k∈pD0))):=by
 refine eN func79 rfl ntmps79 rfl w0 fun hF=>?_
 unfold dp at h
 refine att 6 [] rfl ?_
 rcases RSl.nilOr (ph0.rsl) with ⟨hxs1,cc1,hv1⟩ | ⟨a1,cc1,hv1⟩
 ·replace h:some []=some r:=by simpa [hxs1,app] using h
  refine atr 2 [] rfl<|lq (l5 cM (congrArg some hv1) rfl) rfl<|en ?_
  refine cd rfl (fun c=>?_) (fun c=>by simp at c)
  refine att 4 [] rfl ?_
  refine WT.ret hF (az.one rfl) (fun w1 hw=>?_)
  cases h
  replace hw:=hw.addNil
  refine bc (js:=[0]) hw rfl ⟨.slice none 0 0,[],rfl,rfl,OSl.nil _ _ _ _,(by simp)⟩
 refine atr 2 [] rfl<|lq (l5 cM (congrArg some hv1) rfl) rfl<|en ?_
 refine cd rfl (fun c=>by simp at c) (fun c=>?_)
 refine atr 3 [] rfl ?_
 have rc1:RC aq 2 Φ ([]:List (List Nat)) [] ([]:List af):=RC.nil _ _ _
 refine le' (aY (vs:=[]) (C:=#[]) aq.lasts cM dJ rfl rfl rfl rfl (ag oA (aa)) rfl rc1 rfl (by simpa using Kw.nil)) rfl ?_
 rintro v1 Φ_1 D1 ⟨fr1,h1⟩
 replace h1:OSl aq 103 2 Φ_1 [] v1 ([]:List af):=by simpa [List.append_assoc] using h1
 refine WL.conv (S':=St w0 Φ_1 [] [[],ob v1]) (fun w1 hw=>hw.addNil)<|la rfl<|luO ph0 fun h2=>?_
 obtain ⟨x1,hx1,h⟩:=bs h
 replace h1:=h1.gives aq.gives
 refine le' (bU eF.lasts eF.one cM km rfl rfl rfl rfl rfl (js:=[1]) (Rr:=[[]]) rfl h1 h2 (fun ap=>dN) (fun ap=>(ap.o ph0.old)) hx1) rfl ?_
 rintro v2 Φ_2 D2 ⟨⟨ap1,fr2⟩,h3⟩
 replace h3:OSl eF 103 2 Φ_2 pD0 v2 x1:=by simpa using h3
 refine la rfl<|en ?_
 exact rtg [0] hF (az.one rfl) rfl (by cases h; exact fun w1 hw=>⟨v2,pD0,rfl,rfl,h3,(fun k hk=>hk)⟩)
theorem ru (w0:aw Ψ Φ [ob pv1,pD1].flatten) (p0:cj) (p1:(List aj)) (ph0_0:RSl bW 3 Ψ pG0_0 pv0_0 p0.pos) (ph0_1:RSl bW 3 Ψ pG0_1 pv0_1 p0.neg) (ph0_2:RSl (RI .i64) 1 Ψ pG0_2 pv0_2 p0.chain.Pos) (ph0_3:RSl (RI .i64) 1 Ψ pG0_3 pv0_3 p0.chain.Neg) (ph0_4:RSl gp 1 Ψ pG0_4 pv0_4 p0.alphas) (ph0_5:RSl bh 3 Ψ pG0_5 pv0_5 p0.s.Items) (ph1:OSl aB 101 1 Φ pD1 pv1 p1) {r:(List aj)} (h:fL N p0 p1=some r) :
  Calls prog 51 [.agg [pv0_0,pv0_1,pv0_2,pv0_3,pv0_4,pv0_5,iV p0.s.Next,iV p0.id].toArray,pv1].toArray w0.w (bg Φ w0.w [ob pv1,pD1].flatten (fun Φ' Fs v=>∃ (Do_0_0:List Nat),v = .tuple #[]∧Fs=[ob pv1,Do_0_0]∧OSl aB 101 1 Φ' Do_0_0 pv1 r)):=by
 refine eL func51 rfl ntmps51 rfl (L:=[ob pv1,pD1]) w0 (fun hF=>?_)
 unfold fL at h
 refine sr<|lbx rfl fun b_1=>arr 9 [] rfl<|lno ph1 rfl<|art 3 [] rfl<|wtS ?_
 have k1:=OSl.nil eF 103 2 Φ
 refine wtS ?_
 have k2:=OSl.nil eF 103 2 Φ
 refine lin (σ:=Hp × (List aj) × List Nat × (List af) × Value × List Nat × (List af) × Value × List Nat × Int) (fun s=>[(1,pv1),(2,pQ b_1),(4,s.2.2.2.2.1),(5,s.2.2.2.2.2.2.2.1),(13,iV (p1.length:Int)),(14,iV s.2.2.2.2.2.2.2.2.2)]) (fun s=>St w0 s.1 [(b_1,.cells #[pv0_0,pv0_1,pv0_2,pv0_3,pv0_4,pv0_5,iV p0.s.Next,iV p0.id] 110 (0,0))] [ob s.2.2.2.2.2.2.2.1,ob s.2.2.2.2.1,ob pv1,s.2.2.1]) (fun m s=>bw N p0 p1 m s.2.1 s.2.2.2.1 s.2.2.2.2.2.2.1 s.2.2.2.2.2.2.2.2.2=some r∧(OSl aB 101 1 s.1 s.2.2.1 pv1 s.2.1)∧(OSl eF 103 2 s.1 s.2.2.2.2.2.1 s.2.2.2.2.1 s.2.2.2.1)∧(∀ k∈s.2.2.2.2.2.1,k∈s.2.2.1)∧(OSl eF 103 2 s.1 s.2.2.2.2.2.2.2.2.1 s.2.2.2.2.2.2.2.1 s.2.2.2.2.2.2.1)∧(∀ k∈s.2.2.2.2.2.2.2.2.1,k∈s.2.2.1)) (Φ,p1,pD1,([]:List af),(.slice none 0 0),[],([]:List af),(.slice none 0 0),[],0) N ⟨h,ph1,k1,(by simp),k2,(by simp)⟩ (sx [0,0,0,0] [0]) (fun n1 ih1 s hm=>?_)
 obtain ⟨Φ_1,s1,D1,s2,u1,D2,s3,u2,D3,s4⟩:=s
 obtain ⟨h,k3,k4,i1,k5,i2⟩:=hm
 dsimp only at h k3 k4 i1 k5 i2 ⊢
 unfold bw at h
 refine att 5 [] rfl ?_
 refine ch h rfl ?_ ?_ <;> intro h
 ·refine att 18 [] rfl<|wtS<|wt0 ?_
  have k6:=OSl.nil aq 103 2 Φ_1
  refine cut (σ:=Hp × (List af) × Value × List Nat) (fun s=>[(1,pv1),(2,pQ b_1),(6,iV s4),(7,s.2.2.1),(13,iV (p1.length:Int)),(14,iV s4)]) (fun s=>St w0 s.1 [(b_1,.cells #[pv0_0,pv0_1,pv0_2,pv0_3,pv0_4,pv0_5,iV p0.s.Next,iV p0.id] 110 (0,0))] [s.2.2.2,ob s.2.2.1,ob pv1,D1]) (fun s=>bJ N s1 s4 (bw N p0 p1 n1) s.2.1=some r∧(OSl aB 101 1 s.1 D1 pv1 s1)∧(OSl aq 103 2 s.1 s.2.2.2 s.2.2.1 s.2.1)) (fun s hm=>?_) (fun K=>?_)
  ·clear h
   obtain ⟨Φ_2,s5,u3,D4⟩:=s
   obtain ⟨h,k3,k7⟩:=hm
   dsimp only at h k3 k7 ⊢
   unfold bJ at h
   refine atr 4 [] rfl ?_
   obtain ⟨x1,hx1,h⟩:=bs h
   obtain ⟨cs1,F1,D5,h1,r1,kf1,sp1⟩:=k3.focus hx1
   obtain ⟨v1,D6,rfl,rfl,h2⟩:=r1
   refine wlL [ob v1,D6,D5,D4,ob u3,ob pv1] (sre [3] [ob v1,D6,D5] rfl (by simpa [List.append_assoc] using sp1))<|lih h1 hx1 rfl<|lf dP rfl rfl rfl<|lgx 0 0 h1.rg rfl<|kab h rfl rfl rfl (fun b z q=>lV N b x1.Toks (h2.gives aq.gives) q) ?_
   rintro x2 h v2 Φ_3 F2 ⟨ap1,fr1,v3,D7,rfl,rfl,h3,i3⟩
   replace h1:=h1.fr fr1 (ap1.q 5 rfl) (ap1.q 2 rfl)
   replace k7:=k7.fr fr1 (ap1.q 4 rfl) (ap1.q 3 rfl)
   replace h2:=h2.fr fr1 (ap1.q 0 rfl) (ap1.q 1 rfl)
   refine arr 12 [] rfl<|lih h1 hx1 rfl<|lf dP rfl rfl rfl<|lgx 0 0 h1.rg rfl<|la rfl ?_
   obtain ⟨x3,hx3,h⟩:=bs h
   have h5:=k7.gives aq.gives
   refine le' (bU aq.lasts aq.one cM km rfl rfl rfl rfl rfl (js:=[1]) (Rr:=[ob v2,D6,D5,D4,ob u3,ob pv1]) rfl h2 k7 (fun ap=>ap.q 1 rfl) (fun ap=>ap.q 3 rfl) hx3) rfl ?_
   rintro v4 Φ_4 D8 ⟨⟨ap2,fr2⟩,h4⟩
   replace h1:=h1.fr fr2 (ap2.q 5 rfl) (ap2.q 2 rfl)
   replace h5:=h5.fr fr2 (ap2.q 4 rfl) (ap2.q 3 rfl)
   replace h3:=h3.fr fr2 (ap2.q 0 rfl) (Dj.sub (ap2.q 1 rfl) i3)
   refine wlL [(D6++D4),ob v4,ob v2,D5,ob u3,ob pv1] (smg [2,3] rfl (SP.eq (by simp)))<|lih h1 hx1 rfl<|lf dP rfl rfl rfl<|lu (us [5] [(D6++D4),ob v4,ob v2,D5,ob u3] 0 aB.lasts y9 rfl rfl h4.one rfl h1 rfl (fun ap=>ap.q 3 rfl)) rfl ?_
   rintro Φ_5 D9 ⟨⟨ap3,fr3⟩,h6⟩
   replace h5:=h5.fr fr3 (ap3.q 4 rfl) (Dj.sub (ap3.q 0 rfl) (fun k hk=>List.mem_append.2 (.inr hk)))
   replace h4:=h4.fr fr3 (ap3.q 1 rfl) (ap3.q 0 rfl)
   replace h3:=h3.fr fr3 (ap3.q 2 rfl) (Dj.sub (Dj.sub (ap3.q 0 rfl) (fun k hk=>List.mem_append.2 (.inl hk))) i3)
   refine art 6 [] rfl ?_
   have r2:aB Φ_5 _ [v4] (⟨x3⟩:aj):=⟨v4,(D6++D4),rfl,rfl,h4⟩
   obtain ⟨D10,h7,sp2,mF1,mD1⟩:=h6.unfocusM r2 (aB.knows _ _ _ _ r2)
   refine wtL [D10,ob pv1,ob v2,ob u3] (smg [2,1,2] rfl (by simpa [List.append_assoc,bv] using sp2)) ?_
   exact lb [3,2,1,0] [0] (ih1 (_,_,_,_,_,_,_,_,_,_) ⟨h,h7,h3,(fun k hk=>((fun k hk=>(fun k hk=>mF1 k (List.mem_append.2 (.inr hk))) k ((fun k hk=>List.mem_append.2 (.inl hk)) k hk)) k (i3 k hk))),h5,(fun k hk=>((fun k hk=>(fun k hk=>mF1 k (List.mem_append.2 (.inr hk))) k ((fun k hk=>List.mem_append.2 (.inr hk)) k hk)) k hk))⟩)
  refine ch h rfl ?_ ?_ <;> intro h
  ·refine atr 4 [8,7,0] rfl ?_
   have rc1:RC (RI .i64) 1 Φ_1 ([[]]:List (List Nat)) [iV p0.id] ([p0.id]:List Int):=RC.cons (c:=[iV p0.id]) (cells:=[]) ⟨rfl,rfl⟩ rfl (RC.nil _ _ _)
   refine le' (aY (vs:=[(0,iV p0.id)]) (C:=#[iV p0.id]) RI.lasts aW gB rfl rfl rfl rfl (ag iy (a7 (C':=[iV p0.id]) rfl rfl rfl rfl rfl (aa))) rfl rc1 rfl (by simpa using Kw.nil)) rfl ?_
   rintro v5 Φ_6 D11 ⟨fr4,h8⟩
   replace h8:OSl (RI .i64) 3 1 Φ_6 [] v5 ([p0.id]:List Int):=by simpa using h8
   replace k3:=k3.f0 fr4
   refine kab h rfl rfl rfl (fun b z q=>iP N b p0 [] ([p0.id]:List Int) (ph0_0.y z) (ph0_1.y z) (ph0_2.y z) (ph0_3.y z) (ph0_4.y z) (ph0_5.y z) (RSl.nil _ _ _) h8.rsl q) ?_
   rintro x4 h v6 Φ_7 F3 ⟨ap4,fr5,v7,D12,rfl,rfl,h9⟩
   replace k3:=k3.fr fr5 (ap4.q 5 rfl) (ap4.q 6 rfl)
   refine la rfl<|en ?_
   exact wo [1,0,5,5] [0] (K (_,_,_,_) ⟨h,k3,h9⟩)
  refine atr 4 [] rfl<|lno k4 rfl<|art 3 [] rfl ?_
  refine lin (σ:=Hp × (List af) × Value × List Nat × Int) (fun s=>[(1,pv1),(2,pQ b_1),(5,u2),(6,iV s4),(7,s.2.2.1),(13,iV (p1.length:Int)),(14,iV s4),(24,u1),(25,iV (s2.length:Int)),(26,iV s.2.2.2.2)]) (fun s=>St w0 s.1 [(b_1,.cells #[pv0_0,pv0_1,pv0_2,pv0_3,pv0_4,pv0_5,iV p0.s.Next,iV p0.id] 110 (0,0))] [s.2.2.2.1,ob s.2.2.1,ob u2,ob u1,ob pv1,D1]) (fun m s=>cr N p0 s1 s2 s3 s4 (bw N p0 p1 n1) m s.2.1 s.2.2.2.2=some r∧(OSl aB 101 1 s.1 D1 pv1 s1)∧(OSl eF 103 2 s.1 D2 u1 s2)∧(OSl eF 103 2 s.1 D3 u2 s3)∧(OSl aq 103 2 s.1 s.2.2.2.1 s.2.2.1 s.2.1)) (Φ_1,([]:List af),(.slice none 0 0),[],0) N ⟨h,k3,k4,k5,k6⟩ (sx [0,0,0,0,0,0] [0]) (fun n3 ih3 s hm=>?_)
  obtain ⟨Φ_8,s6,u4,D13,s7⟩:=s
  obtain ⟨h,k3,k4,k5,k8⟩:=hm
  dsimp only at h k3 k4 k5 k8 ⊢
  unfold cr at h
  refine att 5 [] rfl ?_
  refine ch h rfl ?_ ?_ <;> intro h
  ·refine atr 5 [] rfl ?_
   obtain ⟨x5,hx5,h⟩:=bs h
   obtain ⟨cs2,F4,-,g1,hb2,hs1,r3⟩:=k4.elS (a9 hx5).2.2
   obtain ⟨v8,G1,v9,G2,rfl,rfl,h10,h11⟩:=r3
   refine lio k4 hx5 rfl<|lgx 0 2 g1 rfl<|lnz dJ rfl fun b_2=>soN 0 qy rfl ⟨h10.one,h11.one,trivial⟩ rfl ?_
   refine arr 8 [40,0,0,7,32] rfl ?_
   have rc2:RC (RI .i64) 1 Φ_8 ([[]]:List (List Nat)) [iV p0.id] ([p0.id]:List Int):=RC.cons (c:=[iV p0.id]) (cells:=[]) ⟨rfl,rfl⟩ rfl (RC.nil _ _ _)
   refine le' (aY (vs:=[(0,iV p0.id)]) (C:=#[iV p0.id]) RI.lasts aW gB rfl rfl rfl rfl (ag iy (a7 (C':=[iV p0.id]) rfl rfl rfl rfl rfl (aa))) rfl rc2 rfl (by simpa using Kw.nil)) rfl ?_
   rintro v10 Φ_9 D14 ⟨fr6,h12⟩
   replace h12:OSl (RI .i64) 3 1 Φ_9 [] v10 ([p0.id]:List Int):=by simpa using h12
   replace h10:=h10.f0 fr6
   replace k3:=k3.f0 fr6
   replace k4:=k4.f0 fr6
   replace k5:=k5.f0 fr6
   replace k8:=k8.f0 fr6
   refine kab h rfl rfl rfl (fun b z q=>iP N b p0 x5.Ids ([p0.id]:List Int) (ph0_0.y z) (ph0_1.y z) (ph0_2.y z) (ph0_3.y z) (ph0_4.y z) (ph0_5.y z) h10 h12.rsl q) ?_
   rintro x6 h v11 Φ_10 F5 ⟨ap5,fr7,v12,D15,rfl,rfl,h13⟩
   replace k3:=k3.fr fr7 (ap5.q 5 rfl) (ap5.q 6 rfl)
   replace k4:=k4.fr fr7 (ap5.q 4 rfl) (Dj.sub (ap5.q 6 rfl) i1)
   replace k5:=k5.fr fr7 (ap5.q 3 rfl) (Dj.sub (ap5.q 6 rfl) i2)
   replace k8:=k8.fr fr7 (ap5.q 2 rfl) (ap5.q 1 rfl)
   obtain ⟨x7,hx7,h⟩:=bs h
   refine le' (bU aq.lasts aq.one cM km rfl rfl rfl rfl rfl (js:=[4]) (Rr:=[ob v11,D15,ob v10,D13,ob u2,ob u1,ob pv1,D1]) rfl k8 h13 (fun ap=>ap.q 3 rfl) (fun ap=>ap.q 1 rfl) hx7) rfl ?_
   rintro v13 Φ_11 D16 ⟨⟨ap6,fr8⟩,h14⟩
   replace k3:=k3.fr fr8 (ap6.q 6 rfl) (ap6.q 7 rfl)
   replace k4:=k4.fr fr8 (ap6.q 5 rfl) (Dj.sub (ap6.q 7 rfl) i1)
   replace k5:=k5.fr fr8 (ap6.q 4 rfl) (Dj.sub (ap6.q 7 rfl) i2)
   refine wlL [(D13++D15),ob v13,ob v11,ob v10,ob u2,ob u1,ob pv1,D1] (smg [4,2] rfl (SP.eq (by simp)))<|art 7 [] rfl ?_
   exact lb [0,0,2,2,2,2] [1] (ih3 (_,_,_,_,_) ⟨h,k3,k4,k5,h14⟩)
  refine atr 4 [] rfl<|lno k5 rfl<|art 3 [] rfl ?_
  refine lin (σ:=Hp × (List af) × Value × List Nat × Int) (fun s=>[(1,pv1),(2,pQ b_1),(6,iV s4),(7,s.2.2.1),(13,iV (p1.length:Int)),(14,iV s4),(40,u2),(41,iV (s3.length:Int)),(42,iV s.2.2.2.2)]) (fun s=>St w0 s.1 [(b_1,.cells #[pv0_0,pv0_1,pv0_2,pv0_3,pv0_4,pv0_5,iV p0.s.Next,iV p0.id] 110 (0,0))] [s.2.2.2.1,ob s.2.2.1,ob u2,ob pv1,D1]) (fun m s=>cl N p0 s1 s3 s4 (bw N p0 p1 n1) m s.2.1 s.2.2.2.2=some r∧(OSl aB 101 1 s.1 D1 pv1 s1)∧(OSl eF 103 2 s.1 D3 u2 s3)∧(OSl aq 103 2 s.1 s.2.2.2.1 s.2.2.1 s.2.1)) (Φ_8,s6,u4,D13,0) N ⟨h,k3,k5,k8⟩ (sx [0,0,0,1,1] [0]) (fun n4 ih4 s hm=>?_)
  obtain ⟨Φ_12,s8,u5,D17,s9⟩:=s
  obtain ⟨h,k3,k5,k9⟩:=hm
  dsimp only at h k3 k5 k9 ⊢
  unfold cl at h
  refine att 5 [] rfl ?_
  refine ch h rfl ?_ ?_ <;> intro h
  ·refine atr 5 [] rfl ?_
   obtain ⟨x8,hx8,h⟩:=bs h
   obtain ⟨cs3,F6,-,g2,hb3,hs2,r4⟩:=k5.elS (a9 hx8).2.2
   obtain ⟨v14,G3,v15,G4,rfl,rfl,h15,h16⟩:=r4
   refine lio k5 hx8 rfl<|lgx 0 2 g2 rfl<|lnz dJ rfl fun b_3=>soN 0 qy rfl ⟨h15.one,h16.one,trivial⟩ rfl ?_
   refine en<|wm [0,1] [] rfl<|amm 10 [0,1,40,2,0,3,0,4,4,5,32,6,2,7,0,8,32,9] [0,1] rfl rfl ?_
   obtain ⟨x9,hx9,h⟩:=bs h
   obtain ⟨cs4,F7,-,g3,hb4,hs3,r5⟩:=ph0_2.el (a9 hx9).2.2
   obtain ⟨rfl,-⟩:=r5
   refine mq 10 rfl (by kernel_rfl) (kN [0,1]) (ac aW rfl rfl ph0_2 hx9) rfl<|mq 11 rfl (by kernel_rfl) (kN [0,1]) (au pt rfl (fun w1 hw=>(g3.of_eq 0 1 rfl rfl:rg _ _ _ [iV x9]).rangeAt hw.1)) rfl ?_
   obtain ⟨x10,hx10,h⟩:=bs h
   obtain ⟨cs5,F8,-,g4,hb5,hs4,r6⟩:=ph0_4.el (a9 hx10).2.2
   obtain ⟨v16,G5,rfl,hq1,h17⟩:=r6
   obtain rfl:=hq1.symm
   refine mq 12 rfl (by kernel_rfl) (kN [0,1]) (ac jR rfl rfl ph0_4 hx10) rfl<|amm 1 [13,0] [0,1] rfl rfl<|mq 14 rfl (by kernel_rfl) (kN [0,1]) (au iz rfl (fun w1 hw=>(g4.of_eq 0 1 rfl rfl:rg _ _ _ [v16]).rangeAt hw.1)) rfl ?_
   obtain ⟨x11,hx11,h⟩:=bs h
   refine WM.one 15 (by kernel_rfl) (mc rfl (fun _ v Φx D w1 hq hw=>Kn.of Kf.nil (ai2 0 1 rfl rfl) hw) (bZ (js:=[]) (R:=[D17,ob u5,ob u2,ob pv1,D1]) Es rfl rfl (fun w1 hw ap hl=>iP N (ba hw.fro) p0 x8.Ids x10.L (ph0_0.y hw.up) (ph0_1.y hw.up) (ph0_2.y hw.up) (ph0_3.y hw.up) (ph0_4.y hw.up) (ph0_5.y hw.up) h15 (h17.y hw.up)  hx11)) rfl ?_)
   rintro v17 Φ_13 F9 ⟨ap7,fr9,v18,D18,rfl,rfl,h18⟩
   replace k3:=k3.fr fr9 (ap7.q 3 rfl) (ap7.q 4 rfl)
   replace k5:=k5.fr fr9 (ap7.q 2 rfl) (Dj.sub (ap7.q 4 rfl) i2)
   replace k9:=k9.fr fr9 (ap7.q 1 rfl) (ap7.q 0 rfl)
   obtain ⟨x12,hx12,h⟩:=bs h
   refine WM.one 16 (by kernel_rfl) (me rfl (fun _ v Φx D w1 hq hw=>Kn.of Kf.nil (ai2 0 1 rfl rfl) hw) (bU aq.lasts aq.one cM km rfl rfl rfl rfl rfl (js:=[3]) (Rr:=[ob v17,D18,D17,ob u2,ob pv1,D1]) rfl k9 h18 (fun ap=>ap.q 2 rfl) (fun ap=>ap.q 1 rfl) hx12) rfl ?_)
   rintro v19 Φ_14 D19 ⟨⟨ap8,fr10⟩,h19⟩
   replace k3:=k3.fr fr10 (ap8.q 4 rfl) (ap8.q 5 rfl)
   replace k5:=k5.fr fr10 (ap8.q 3 rfl) (Dj.sub (ap8.q 5 rfl) i2)
   refine WM.conv (S':=St w0 Φ_14 [(b_3,.cells #[v14,v15] 103 (0,0)),(b_1,.cells #[pv0_0,pv0_1,pv0_2,pv0_3,pv0_4,pv0_5,iV p0.s.Next,iV p0.id] 110 (0,0))] [(D17++D18),ob v19,ob v17,ob u2,ob pv1,D1]) (fun w1 hw=>hw.merge (js:=[3,2]) rfl (SP.eq (by simp)))<|amm 1 [17] [0,1] rfl rfl<|WM.nil (by kernel_rfl)<|att 5 [] rfl ?_
   exact lb [0,0,1,1,1] [1] (ih4 (_,_,_,_,_) ⟨h,k3,k5,h19⟩)
  refine xt rfl ?_
  exact wo [0,0,1,1] [0] (K (_,_,_,_) ⟨h,k3,k9⟩)
 refine xt rfl ?_
 refine WT.fin hF az.none (fun w1 hw=>?_)
 cases h
 refine bc (js:=[2,2]) hw rfl ⟨D1,rfl,rfl,k3⟩
end Go.Proofs.YtinomobmcjnfjaaGreat
