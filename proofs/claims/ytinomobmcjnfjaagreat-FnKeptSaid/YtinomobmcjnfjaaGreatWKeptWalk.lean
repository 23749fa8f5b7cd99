/- Printed by a program of ours: each Go function computes its Lean function. -/
import Derived.Test.YtinomobmcjnfjaaGreatProg
import Derived.Test.YtinomobmcjnfjaaGreatWKeptWalk8
namespace Go.Proofs.YtinomobmcjnfjaaGreat
open Eng Tryz
open Go.RowKit (Below)
set_option linter.unusedVariables false
set_option linter.unusedSimpArgs false

set_option maxRecDepth 100000
set_option maxHeartbeats 8000000
variable {Ψ Φ:Hp} {pv0_0 pv0_1 pv1_0 pv1_1 pv2_0 pv2_1 pv3_0 pv0 pv1:Value} {pG0_0 pG0_1 pG1_0 pG1_1 pG2_0 pG2_1 pG3_0 pG0 pG1:List Nat} (N:Nat)
theorem tv (w0:aw Ψ Φ []) (p0:aO) (p1:ax) (ph0_0:RSl bl 4 Ψ pG0_0 pv0_0 p0.Alphas) (ph0_1:RSl bV 2 Ψ pG0_1 pv0_1 p0.Chains) (ph1_0:RSl gp 1 Ψ pG1_0 pv1_0 p1.Alphas) (ph1_1:RSl jx 1 Ψ pG1_1 pv1_1 p1.Rules) {r:Bool} (h:jS N p0 p1=some r) :
  CB w0 prog 56 [.agg [pv0_0,pv0_1].toArray,.agg [pv1_0,pv1_1].toArray] (.bool r):=by
 refine eN func56 rfl ntmps56 rfl w0 fun hF=>?_
 unfold jS at h
 refine sr<|lbx rfl fun b_1=>lbx rfl fun b_2=>arr 7 [0,0] rfl<|lnr ph1_0 rfl<|arr 2 [0,32] rfl<|lnr ph0_0 rfl<|arr 2 [] rfl ?_
 obtain ⟨b1,hb_1,h⟩:=bs h
 refine WL.cutN 8 [(24,.bool b1),(2,pQ b_1),(3,pQ b_2)] ?_ (fun K=>?_)
 rotate_left
 ·refine sp 16 hb_1 rfl (fun hb_1=>?_) fun hb_1=>?_
  ·refine arr 8 [] rfl ?_
   cases hb_1
   exact ku K
  ·refine arr 2 [1,0] rfl<|ly rfl rfl<|lnr ph1_1 rfl<|arr 2 [1,32] rfl<|ly rfl rfl<|lnr ph0_1 rfl<|arr 2 [] rfl ?_
   cases hb_1
   exact ku K
 refine en ?_
 refine ch h rfl ?_ ?_ <;> intro h
 ·refine att 4 [] rfl ?_
  exact rt hF h
 refine att 7 [] rfl ?_
 refine lin (σ:=Int) (fun s=>[(2,pQ b_1),(3,pQ b_2),(5,iV s)]) (fun s=>St w0 Φ [(b_2,.cells #[pv1_0,pv1_1] 34 (0,0)),(b_1,.cells #[pv0_0,pv0_1] 30 (0,0))] []) (fun m s=>bC N p0 p1 m s=some r) (0) N h (sx [] [0,0]) (fun n1 ih1 s hm=>?_)
 revert hm; revert s; intro s1 hm
 have h:bC N p0 p1 (n1+1) s1=some r:=hm
 show WT _ _ [(2,pQ b_1),(3,pQ b_2),(5,iV s1)] (St w0 Φ [(b_2,.cells #[pv1_0,pv1_1] 34 (0,0)),(b_1,.cells #[pv0_0,pv0_1] 30 (0,0))] [])
 unfold bC at h
 refine atr 6 [1,0] rfl<|lnr ph1_1 rfl<|la rfl<|en ?_
 refine ch h rfl ?_ ?_ <;> intro h
 ·refine atr 8 [1,32] rfl ?_
  obtain ⟨x1,hx1,h⟩:=bs h
  obtain ⟨cs1,F1,-,g1,hb1,hs1,r1⟩:=ph0_1.el (a9 hx1).2.2
  obtain ⟨v1,G1,v2,G2,rfl,rfl,h1,h2⟩:=r1
  refine lia ph0_1 hx1 rfl<|lf lg rfl rfl rfl<|lhx 0 0 g1 rfl<|lnr h1 rfl<|arr 8 [1,0] rfl ?_
  obtain ⟨x2,hx2,h⟩:=bs h
  obtain ⟨cs2,F2,-,g2,hb2,hs2,r2⟩:=ph1_1.el (a9 hx2).2.2
  obtain ⟨v3,G3,rfl,hq1,h3⟩:=r2
  obtain rfl:=hq1.symm
  refine lia ph1_1 hx2 rfl<|lf gZ rfl rfl rfl<|lhx 0 0 g2 rfl<|lnr h3 rfl<|art 3 [] rfl ?_
  refine ch h rfl ?_ ?_ <;> intro h
  ·refine att 4 [] rfl ?_
   exact rt hF h
  refine att 6 [] rfl ?_
  refine lin (σ:=Int) (fun s=>[(2,pQ b_1),(3,pQ b_2),(5,iV s1),(6,iV (x1.Pos.length:Int)),(7,iV s)]) (fun s=>St w0 Φ [(b_2,.cells #[pv1_0,pv1_1] 34 (0,0)),(b_1,.cells #[pv0_0,pv0_1] 30 (0,0))] []) (fun m s=>bO N p0 p1 s1 (bC N p0 p1 n1) x1 m s=some r) (0) N h (sx [] [0,0]) (fun n2 ih2 s hm=>?_)
  revert hm; revert s; intro s2 hm
  have h:bO N p0 p1 s1 (bC N p0 p1 n1) x1 (n2+1) s2=some r:=hm
  show WT _ _ [(2,pQ b_1),(3,pQ b_2),(5,iV s1),(6,iV (x1.Pos.length:Int)),(7,iV s2)] (St w0 Φ [(b_2,.cells #[pv1_0,pv1_1] 34 (0,0)),(b_1,.cells #[pv0_0,pv0_1] 30 (0,0))] [])
  unfold bO at h
  refine att 7 [] rfl ?_
  refine ch h rfl ?_ ?_ <;> intro h
  ·refine att 15 [] rfl ?_
   refine cut (σ:=Int) (fun s=>[(2,pQ b_1),(3,pQ b_2),(5,iV s1),(6,iV (x1.Pos.length:Int)),(7,iV s2),(8,iV s)]) (fun s=>St w0 Φ [(b_2,.cells #[pv1_0,pv1_1] 34 (0,0)),(b_1,.cells #[pv0_0,pv0_1] 30 (0,0))] []) (fun s=>eS N p1 s1 s2 (bO N p0 p1 s1 (bC N p0 p1 n1) x1 n2) s=some r) (fun s hm=>?_) (fun K=>?_)
   ·clear h
    revert hm; revert s; intro s3 hm
    have h:eS N p1 s1 s2 (bO N p0 p1 s1 (bC N p0 p1 n1) x1 n2) s3=some r:=hm
    show WT _ _ [(2,pQ b_1),(3,pQ b_2),(5,iV s1),(6,iV (x1.Pos.length:Int)),(7,iV s2),(8,iV s3)] (St w0 Φ [(b_2,.cells #[pv1_0,pv1_1] 34 (0,0)),(b_1,.cells #[pv0_0,pv0_1] 30 (0,0))] [])
    unfold eS at h
    refine atr 5 [1,0] rfl ?_
    obtain ⟨x3,hx3,h⟩:=bs h
    obtain ⟨cs3,F3,-,g3,hb3,hs3,r3⟩:=ph1_1.el (a9 hx3).2.2
    obtain ⟨v4,G4,rfl,hq2,h4⟩:=r3
    obtain rfl:=hq2.symm
    refine lia ph1_1 hx3 rfl<|lf gZ rfl rfl rfl<|lhx 0 0 g3 rfl<|la rfl ?_
    obtain ⟨x4,hx4,h⟩:=bs h
    obtain ⟨cs4,F4,-,g4,hb4,hs4,r4⟩:=h4.el (a9 hx4).2.2
    obtain ⟨v5,G5,rfl,hq3,h5⟩:=r4
    obtain rfl:=hq3.symm
    refine lia h4 hx4 rfl<|lf dP rfl rfl rfl<|lhx 0 0 g4 rfl<|arr 3 [] rfl<|qd h (vg N · x4.Toks (wz (s2+1)) s3 h5 ·) rfl rfl rfl fun x5 h=>la rfl<|en ?_
    refine ch h rfl ?_ ?_ <;> intro h
    ·refine att 4 [] rfl ?_
     exact rt hF h
    refine att 7 [] rfl ?_
    exact lb [] [0,0] (ih2 _ h)
   refine ch h rfl ?_ ?_ <;> intro h
   ·refine atr 4 [1,32] rfl ?_
    obtain ⟨x6,hx6,h⟩:=bs h
    obtain ⟨cs5,F5,-,g5,hb5,hs5,r5⟩:=ph0_1.el (a9 hx6).2.2
    obtain ⟨v6,G6,v7,G7,rfl,rfl,h6,h7⟩:=r5
    refine lia ph0_1 hx6 rfl<|lf qf rfl rfl rfl<|lhx 1 0 g5 rfl<|lnr h7 rfl<|la rfl<|en ?_
    exact wo [] [0,0] (K _ h)
   refine WT.skip ?_
   exact wo [] [0,0] (K _ h)
  refine att 7 [] rfl ?_
  exact lb [] [0,0] (ih1 _ h)
 refine att 5 [] rfl ?_
 exact rt hF h
theorem vF (w0:aw Ψ Φ []) (p0:bm) (p1:aO) (p2:ax) (p3:ah) (p4:Int) (ph0_0:RSl dH 5 Ψ pG0_0 pv0_0 p0.Rules) (ph1_0:RSl bl 4 Ψ pG1_0 pv1_0 p1.Alphas) (ph1_1:RSl bV 2 Ψ pG1_1 pv1_1 p1.Chains) (ph2_0:RSl gp 1 Ψ pG2_0 pv2_0 p2.Alphas) (ph2_1:RSl jx 1 Ψ pG2_1 pv2_1 p2.Rules) (ph3_0:RSl bh 3 Ψ pG3_0 pv3_0 p3.Items) {r:Bool} (h:mH N p0 p1 p2 p3 p4=some r) :
  CB w0 prog 24 [.agg [.string p0.Name,pv0_0].toArray,.agg [pv1_0,pv1_1].toArray,.agg [pv2_0,pv2_1].toArray,.agg [pv3_0,iV p3.Next].toArray,iV p4] (.bool r):=by
 refine eN func24 rfl ntmps24 rfl w0 fun hF=>?_
 unfold mH at h
 refine sr<|lbx rfl fun b_1=>lbx rfl fun b_2=>lbx rfl fun b_3=>lbx rfl fun b_4=>arr 6 [2] rfl<|kab h rfl rfl rfl (fun b z q=>jg N b p3 p4 (ph3_0.y z) q) ?_
 rintro x1 h v1 Φ_1 F1 ⟨ap1,fr1,v2,rfl,rfl,h1⟩
 refine arr 3 [] rfl<|lnz j9 rfl fun b_5=>soN 0 jL rfl ⟨rfl,h1.one,trivial⟩ rfl ?_
 refine arr 6 [] rfl ?_
 obtain ⟨b1,hb_1,h⟩:=bs h
 refine WL.cutN 3 [(23,.bool b1),(5,pQ b_1),(6,pQ b_2),(7,pQ b_3)] ?_ (fun K=>?_)
 rotate_left
 ·refine sp 20 hb_1 rfl (fun hb_1=>?_) fun hb_1=>?_
  ·refine ly rfl rfl<|ld2 pV 1 rfl<|ly rfl rfl<|qd hb_1 (ux N · p3 ph3_0 ·) rfl rfl rfl fun x2 hb_1=>la rfl ?_
   cases hb_1
   exact ku K
  ·refine arr 3 [] rfl ?_
   cases hb_1
   exact ku K
 refine la rfl ?_
 obtain ⟨b2,hb_2,h⟩:=bs h
 refine WL.cutN 4 [(28,.bool b2),(6,pQ b_2),(7,pQ b_3)] ?_ (fun K=>?_)
 rotate_left
 ·refine sp 24 hb_2 rfl (fun hb_2=>?_) fun hb_2=>?_
  ·refine arr 2 [98,130] rfl<|ly rfl rfl<|qd hb_2 (wW N · p1 p0 ph1_0 ph1_1 ph0_0 ·) rfl rfl rfl fun x3 hb_2=>la rfl ?_
   cases hb_2
   exact ku K
  ·refine arr 4 [] rfl ?_
   cases hb_2
   exact ku K
 refine la rfl ?_
 obtain ⟨b3,hb_3,h⟩:=bs h
 refine WL.cutN 4 [(33,.bool b3)] ?_ (fun K=>?_)
 rotate_left
 ·refine sp 29 hb_3 rfl (fun hb_3=>?_) fun hb_3=>?_
  ·refine arr 2 [98,66] rfl<|ly rfl rfl<|qd hb_3 (tv N · p1 p2 ph1_0 ph1_1 ph2_0 ph2_1 ·) rfl rfl rfl fun x4 hb_3=>la rfl ?_
   cases hb_3
   exact ku K
  ·refine arr 4 [] rfl ?_
   cases hb_3
   exact ku K
 refine la rfl<|en ?_
 exact rt hF h
theorem ub (w0:aw Ψ Φ []) (p0:bm) (p1:aO) (p2:ax) (p3:ah) (p4:Int) (ph0_0:RSl dH 5 Ψ pG0_0 pv0_0 p0.Rules) (ph1_0:RSl bl 4 Ψ pG1_0 pv1_0 p1.Alphas) (ph1_1:RSl bV 2 Ψ pG1_1 pv1_1 p1.Chains) (ph2_0:RSl gp 1 Ψ pG2_0 pv2_0 p2.Alphas) (ph2_1:RSl jx 1 Ψ pG2_1 pv2_1 p2.Rules) (ph3_0:RSl bh 3 Ψ pG3_0 pv3_0 p3.Items) {r:ax} (h:li N p0 p1 p2 p3 p4=some r) :
  Calls prog 7 [.agg [.string p0.Name,pv0_0].toArray,.agg [pv1_0,pv1_1].toArray,.agg [pv2_0,pv2_1].toArray,.agg [pv3_0,iV p3.Next].toArray,iV p4].toArray w0.w (bg Φ w0.w [] (fun Φ' Fs v=>∃ (sr_0_0:Value) (Dr_0_0:List Nat) (sr_0_1:Value) (Dr_0_1:List Nat),v = .agg [sr_0_0,sr_0_1].toArray∧Fs=[ob sr_0_0,Dr_0_0,ob sr_0_1,Dr_0_1]∧OSl aR 44 1 Φ' Dr_0_0 sr_0_0 r.Alphas∧OSl aM 98 1 Φ' Dr_0_1 sr_0_1 r.Rules)):=by
 refine eN func7 rfl ntmps7 rfl w0 fun hF=>?_
 unfold li at h
 refine sr<|lbx rfl fun b_1=>lbx rfl fun b_2=>lbx rfl fun b_3=>lbx rfl fun b_4=>lnz jE rfl fun b_5=>arr 4 [66] rfl<|kab h rfl rfl rfl (fun b z q=>q8 N b p2 (ph2_0.y z) (ph2_1.y z) q) ?_
 rintro x1 h v1 Φ_1 F1 ⟨ap1,fr1,v2,D1,v3,D2,rfl,rfl,h1,h2⟩
 refine lnz jE rfl fun b_6=>soN 0 kj rfl ⟨h1.one,h2.one,trivial⟩ rfl ?_
 refine arr 9 [162,130,98,66] rfl<|qd h (vF N · p0 p1 p2 p3 p4 ph0_0 ph1_0 ph1_1 ph2_0 ph2_1 ph3_0 ·) rfl rfl rfl fun x2 h=>en ?_
 refine cut (σ:=Hp × (List bk) × Value × List Nat × (List aJ) × Value × List Nat) (fun s=>[(10,pQ b_5),(11,pQ b_6)]) (fun s=>St w0 s.1 [(b_6,.cells #[s.2.2.1,s.2.2.2.2.2.1] 34 (0,0)),(b_5,.cells #[.slice none 0 0,.slice none 0 0] 34 (0,0))] [ob s.2.2.1,s.2.2.2.1,ob s.2.2.2.2.2.1,s.2.2.2.2.2.2]) (fun s=>kt N s.2.1 s.2.2.2.2.1=some r∧(OSl aR 44 1 s.1 s.2.2.2.1 s.2.2.1 s.2.1)∧(OSl aM 98 1 s.1 s.2.2.2.2.2.2 s.2.2.2.2.2.1 s.2.2.2.2.1)) (fun s hm=>?_) (fun K=>?_)
 ·clear h
  obtain ⟨Φ_2,s1,u1,D3,s2,u2,D4⟩:=s
  obtain ⟨h,k1,k2⟩:=hm
  dsimp only at h k1 k2 ⊢
  unfold kt at h
  refine atr 3 [2] rfl<|soN 1 kj rfl ⟨k1.one,k2.one,trivial⟩ rfl ?_
  refine en ?_
  exact rtg [0,0,0,0] hF (az.one (aX tc rfl (fun w1 hw=>hw.rgO (i:=1) rfl 0 2 [u1,u2] rfl) rfl)) rfl (by cases h; exact fun w1 hw=>⟨u1,D3,u2,D4,rfl,rfl,k1,k2⟩)
 refine ch h rfl ?_ ?_ <;> intro h
 ·refine atr 5 [162,130,66] rfl ?_
  refine WL.frz (js:=[0]) (R:=[(b_5,.cells #[.slice none 0 0,.slice none 0 0] 34 (0,0)),(b_4,.cells #[pv3_0,iV p3.Next] 37 (0,0)),(b_3,.cells #[pv2_0,pv2_1] 34 (0,0)),(b_2,.cells #[pv1_0,pv1_1] 30 (0,0)),(b_1,.cells #[.string p0.Name,pv0_0] 26 (0,0))]) rfl (fun Φ_3 fr2 k3=>?_)
  replace h1:=h1.f0 fr2
  replace h2:=h2.f0 fr2
  refine kcb [0,0,0,0,0] h rfl rfl rfl rfl (fun b ap z q=>qR N b p0 p1 x1 p3 p4 (ph0_0.y z) (ph1_0.y z) (ph1_1.y z) h1 h2 k3 (ph3_0.y z) q) ?_
  rintro x3 h v4 Φ_4 F2 ⟨ap2,fr3,v5,D5,v6,D6,rfl,rfl,h3,h4,h5⟩
  refine en ?_
  refine WT.thw (js:=[0]) (R:=[ob v5,D5,ob v6,D6]) rfl h5 (fun Φ_5 ap3 fr4=>?_)
  replace h3:=h3.fr fr4 (ap3.q 0 rfl) (ap3.q 1 rfl)
  replace h4:=h4.fr fr4 (ap3.q 2 rfl) (ap3.q 3 rfl)
  exact wo [0,0,0,0] [0,0] (K (_,_,_,_,_,_,_) ⟨h,h3,h4⟩)
 refine WT.skip ?_
 exact wo [0,0,0,0] [0,0] (K (_,_,_,_,_,_,_) ⟨h,h1,h2⟩)
theorem pF (w0:aw Ψ Φ []) (p0:(List Int)) (p1:(List Int)) (ph0:RSl (RI .i64) 1 Ψ pG0 pv0 p0) (ph1:RSl (RI .i64) 1 Ψ pG1 pv1 p1) {r:Bool} (h:iX N p0 p1=some r) :
  CB w0 prog 8 [pv0,pv1] (.bool r):=by
 refine eN func8 rfl ntmps8 rfl w0 fun hF=>?_
 unfold iX at h
 refine atr 8 [] rfl<|lnr ph0 rfl<|la rfl<|lnr ph1 rfl<|la rfl<|en ?_
 refine ch h rfl ?_ ?_ <;> intro h
 ·refine att 4 [] rfl ?_
  exact rt hF h
 refine att 7 [] rfl ?_
 refine lin (σ:=Int) (fun s=>[(0,pv0),(1,pv1),(5,iV s)]) (fun s=>St w0 Φ [] []) (fun m s=>fJ N p0 p1 m s=some r) (0) N h (sx [] []) (fun n1 ih1 s hm=>?_)
 revert hm; revert s; intro s1 hm
 have h:fJ N p0 p1 (n1+1) s1=some r:=hm
 show WT _ _ [(0,pv0),(1,pv1),(5,iV s1)] (St w0 Φ [] [])
 unfold fJ at h
 refine atr 5 [] rfl<|lnr ph0 rfl<|la rfl<|en ?_
 refine ch h rfl ?_ ?_ <;> intro h
 ·refine att 4 [] rfl<|WT.draw cc (by kernel_rfl) (fun _ h=>h.drew)<|aqq 2 [] rfl ?_
  obtain ⟨x1,hx1,h⟩:=bs h
  obtain ⟨cs1,F1,-,g1,hb1,hs1,r1⟩:=ph0.el (a9 hx1).2.2
  obtain ⟨rfl,-⟩:=r1
  refine qq (ac aW rfl rfl ph0 hx1) rfl<|qq (au pt rfl (fun w1 hw=>(g1.of_eq 0 1 rfl rfl:rg _ _ _ [iV x1]).rangeAt hw.in0)) rfl<|aqq 2 [] rfl ?_
  obtain ⟨x2,hx2,h⟩:=bs h
  obtain ⟨cs2,F2,-,g2,hb2,hs2,r2⟩:=ph1.el (a9 hx2).2.2
  obtain ⟨rfl,-⟩:=r2
  refine qq (ac aW rfl rfl ph1 hx2) rfl<|qq (au pt rfl (fun w1 hw=>(g2.of_eq 0 1 rfl rfl:rg _ _ _ [iV x2]).rangeAt hw.in0)) rfl<|aqt 2 [] rfl ?_
  refine ch h rfl ?_ ?_ <;> intro h
  ·refine att 4 [] rfl ?_
   exact rt hF h
  refine att 7 [] rfl ?_
  exact lb [] [] (ih1 _ h)
 refine att 5 [] rfl ?_
 exact rt hF h
theorem vS (w0:aw Ψ Φ []) (p0:(List Int)) (ph0:RSl (RI .u8) 1 Ψ pG0 pv0 p0) {r:Bool} (h:ny N p0=some r) :
  CB w0 prog 3 [pv0] (.bool r):=by
 refine eN func3 rfl ntmps3 rfl w0 fun hF=>?_
 unfold ny at h
 refine atr 8 [] rfl<|qd h (z0 N · p0 ph0 ·) rfl rfl rfl fun x1 h=>en ?_
 refine ch h rfl ?_ ?_ <;> intro h
 ·refine att 4 [] rfl ?_
  exact rt hF h
 refine atr 4 [] rfl<|kab h rfl rfl rfl (fun b z q=>rz N b p0 (ph0.y z) q) ?_
 rintro x2 h v1 Φ_1 F1 ⟨ap1,fr1,v2,D1,v3,D2,v4,D3,v5,D4,v6,D5,v7,D6,X1,rfl,rfl,h1,h2,i1,h3,h4,h5,h6,i2⟩
 refine arr 6 [] rfl<|lnz tj rfl fun b_1=>lnz nj rfl fun b_2=>lnz jE rfl fun b_3=>lnz w8 rfl fun b_4=>soN 3 u6 rfl ⟨rfl,h1.one,trivial⟩ rfl ?_
 refine soN 2 o0 rfl ⟨h2.one,h3.one,trivial⟩ rfl ?_
 refine soN 1 kj rfl ⟨h4.one,h5.one,trivial⟩ rfl ?_
 refine soN 0 xV rfl ⟨h6.one,rfl,trivial⟩ rfl ?_
 refine arr 9 [98,66,34,2] rfl<|kab h rfl rfl rfl (fun b z q=>uN N b x2.1 x2.2.1 x2.2.2.1 x2.2.2.2.1 x2.2.2.2.2 (h1.rslG cG.gives) h2.rsl (h3.rslG ay.gives) (h4.rslG aR.gives) (h5.rslG aM.gives) h6.rsl q) ?_
 rintro x4 h v8 Φ_2 F2 ⟨ap2,fr2,v9,D7,v10,D8,rfl,rfl,h7,h8⟩
 replace h1:=h1.fr fr2 (ap2.q 0 rfl) (ap2.q 1 rfl)
 replace h2:=h2.fr fr2 (ap2.q 2 rfl) (Dj.sub (ap2.q 10 rfl) i1)
 replace h3:=h3.fr fr2 (ap2.q 3 rfl) (ap2.q 4 rfl)
 replace h4:=h4.fr fr2 (ap2.q 5 rfl) (ap2.q 6 rfl)
 replace h5:=h5.fr fr2 (ap2.q 7 rfl) (ap2.q 8 rfl)
 replace h6:=h6.fr fr2 (ap2.q 9 rfl) (Dj.sub (ap2.q 10 rfl) i2)
 refine lnz jE rfl fun b_5=>soN 0 kj rfl ⟨h7.one,h8.one,trivial⟩ rfl ?_
 refine arr 8 [130,98,66,34] rfl<|kab h rfl rfl rfl (fun b z q=>ub N b x2.1 x2.2.1 x2.2.2.1 x2.2.2.2.1 x2.2.2.2.2 (h1.rslG cG.gives) h2.rsl (h3.rslG ay.gives) (h4.rslG aR.gives) (h5.rslG aM.gives) h6.rsl q) ?_
 rintro x5 h v11 Φ_3 F3 ⟨ap3,fr3,v12,D9,v13,D10,rfl,rfl,h9,h10⟩
 replace h1:=h1.fr fr3 (ap3.q 4 rfl) (ap3.q 5 rfl)
 replace h2:=h2.fr fr3 (ap3.q 6 rfl) (Dj.sub (ap3.q 14 rfl) i1)
 replace h3:=h3.fr fr3 (ap3.q 7 rfl) (ap3.q 8 rfl)
 replace h4:=h4.fr fr3 (ap3.q 9 rfl) (ap3.q 10 rfl)
 replace h5:=h5.fr fr3 (ap3.q 11 rfl) (ap3.q 12 rfl)
 replace h6:=h6.fr fr3 (ap3.q 13 rfl) (Dj.sub (ap3.q 14 rfl) i2)
 replace h7:=h7.fr fr3 (ap3.q 0 rfl) (ap3.q 1 rfl)
 replace h8:=h8.fr fr3 (ap3.q 2 rfl) (ap3.q 3 rfl)
 refine lnz jE rfl fun b_6=>soN 0 kj rfl ⟨h9.one,h10.one,trivial⟩ rfl ?_
 refine arr 6 [0,32] rfl<|lno h7 rfl<|arr 2 [0,0] rfl<|lno h9 rfl<|arr 2 [] rfl ?_
 obtain ⟨b1,hb_1,h⟩:=bs h
 refine WL.cutN 8 [(51,.bool b1),(3,pQ b_1),(4,pQ b_2),(5,pQ b_3),(6,pQ b_4),(7,iV x2.2.2.2.2),(8,pQ b_5),(9,pQ b_6)] ?_ (fun K=>?_)
 rotate_left
 ·refine sp 43 hb_1 rfl (fun hb_1=>?_) fun hb_1=>?_
  ·refine arr 8 [] rfl ?_
   cases hb_1
   exact ku K
  ·refine arr 2 [1,32] rfl<|ly rfl rfl<|lno h8 rfl<|arr 2 [1,0] rfl<|ly rfl rfl<|lno h10 rfl<|arr 2 [] rfl ?_
   cases hb_1
   exact ku K
 refine en ?_
 refine ch h rfl ?_ ?_ <;> intro h
 ·refine att 4 [] rfl ?_
  exact rt hF h
 refine att 7 [] rfl ?_
 refine lin (σ:=Int) (fun s=>[(3,pQ b_1),(4,pQ b_2),(5,pQ b_3),(6,pQ b_4),(7,iV x2.2.2.2.2),(8,pQ b_5),(9,pQ b_6),(10,iV s)]) (fun s=>St w0 Φ_3 [(b_6,.cells #[v12,v13] 34 (0,0)),(b_5,.cells #[v9,v10] 34 (0,0)),(b_4,.cells #[v7,iV x2.2.2.2.1.Next] 37 (0,0)),(b_3,.cells #[v5,v6] 34 (0,0)),(b_2,.cells #[v3,v4] 30 (0,0)),(b_1,.cells #[.string x2.1.Name,v2] 26 (0,0))] [ob v12,D9,ob v13,D10,ob v9,D7,ob v10,D8,ob v2,D1,ob v3,ob v4,D3,ob v5,D4,ob v6,D5,ob v7,X1]) (fun m s=>f7 N x2 x4 x5 m s=some r) (0) N h (fun w1 hw=>(hw.sel (js:=[0,0,0,0,0,0,0,0,0,0,0,0,0,0,0,0,0,0,0]) rfl).selO (js:=[0,0,0,0,0,0]) rfl) (fun n1 ih1 s hm=>?_)
 revert hm; revert s; intro s1 hm
 have h:f7 N x2 x4 x5 (n1+1) s1=some r:=hm
 show WT _ _ [(3,pQ b_1),(4,pQ b_2),(5,pQ b_3),(6,pQ b_4),(7,iV x2.2.2.2.2),(8,pQ b_5),(9,pQ b_6),(10,iV s1)] (St w0 Φ_3 [(b_6,.cells #[v12,v13] 34 (0,0)),(b_5,.cells #[v9,v10] 34 (0,0)),(b_4,.cells #[v7,iV x2.2.2.2.1.Next] 37 (0,0)),(b_3,.cells #[v5,v6] 34 (0,0)),(b_2,.cells #[v3,v4] 30 (0,0)),(b_1,.cells #[.string x2.1.Name,v2] 26 (0,0))] [ob v12,D9,ob v13,D10,ob v9,D7,ob v10,D8,ob v2,D1,ob v3,ob v4,D3,ob v5,D4,ob v6,D5,ob v7,X1])
 unfold f7 at h
 refine atr 6 [0,32] rfl<|lno h7 rfl<|la rfl<|en ?_
 refine ch h rfl ?_ ?_ <;> intro h
 ·refine att 4 [] rfl<|WT.draw cc (by kernel_rfl) (fun _ h=>h.drew)<|aqq 3 [0,32] rfl ?_
  obtain ⟨x6,hx5,h⟩:=bs h
  obtain ⟨cs1,F4,-,g1,hb1,hs1,r1⟩:=h7.elS (a9 hx5).2.2
  obtain ⟨v14,rfl,rfl,h11⟩:=r1
  have h12:=h11.rsl
  refine qq (ac jR rfl rfl h7.rsl hx5) rfl<|qq (ab fw rfl) rfl<|qq (au iz rfl (fun w1 hw=>(g1.of_eq 0 1 rfl rfl:rg _ _ _ [v14]).rangeAt hw.fro)) rfl<|aqq 3 [0,0] rfl ?_
  obtain ⟨x7,hx6,h⟩:=bs h
  obtain ⟨cs2,F5,-,g2,hb2,hs2,r2⟩:=h9.elS (a9 hx6).2.2
  obtain ⟨v15,rfl,rfl,h13⟩:=r2
  have h14:=h13.rsl
  refine qq (ac jR rfl rfl h9.rsl hx6) rfl<|qq (ab fw rfl) rfl<|qq (au iz rfl (fun w1 hw=>(g2.of_eq 0 1 rfl rfl:rg _ _ _ [v15]).rangeAt hw.fro)) rfl ?_
  obtain ⟨x8,hx7,h⟩:=bs h
  refine qp (cQ DP rfl (fun w1 hw=>pF N (ba hw.fro) x6.L x7.L h12 h14 hx7)) rfl<|aqt 2 [] rfl ?_
  refine ch h rfl ?_ ?_ <;> intro h
  ·refine att 4 [] rfl ?_
   exact rt hF h
  refine att 7 [] rfl ?_
  exact lb [0,0,0,0,0,0,0,0,0,0,0,0,0,0,0,0,0,0,0] [0,0,0,0,0,0] (ih1 _ h)
 refine atr 5 [66] rfl<|kab h rfl rfl rfl (fun b z q=>jl N b x2.2.2.2.1 x2.2.2.2.2 h6.rsl q) ?_
 rintro x9 h v16 Φ_4 F6 ⟨ap4,fr4,v17,rfl,rfl,h15⟩
 replace h1:=h1.fr fr4 (ap4.q 8 rfl) (ap4.q 9 rfl)
 replace h2:=h2.fr fr4 (ap4.q 10 rfl) (Dj.sub (ap4.q 18 rfl) i1)
 replace h3:=h3.fr fr4 (ap4.q 11 rfl) (ap4.q 12 rfl)
 replace h4:=h4.fr fr4 (ap4.q 13 rfl) (ap4.q 14 rfl)
 replace h5:=h5.fr fr4 (ap4.q 15 rfl) (ap4.q 16 rfl)
 replace h7:=h7.fr fr4 (ap4.q 4 rfl) (ap4.q 5 rfl)
 replace h8:=h8.fr fr4 (ap4.q 6 rfl) (ap4.q 7 rfl)
 refine arr 3 [] rfl<|lnz j9 rfl fun b_7=>soN 0 jL rfl ⟨rfl,h15.one,trivial⟩ rfl ?_
 refine arr 7 [] rfl ?_
 obtain ⟨b2,hb_2,h⟩:=bs h
 refine WL.cutN 4 [(84,.bool b2),(5,pQ b_3),(8,pQ b_5)] ?_ (fun K=>?_)
 rotate_left
 ·refine sp 80 hb_2 rfl (fun hb_2=>?_) fun hb_2=>?_
  ·refine arr 2 [162,194] rfl<|ly rfl rfl<|qc hb_2 (rZ N · x2.2.1 x2.1 h2.rsl (h3.rslG ay.gives) (h1.rslG cG.gives) ·) rfl rfl rfl fun x10 hb_2=>la rfl ?_
   cases hb_2
   exact ku K
  ·refine arr 4 [] rfl ?_
   cases hb_2
   exact ku K
 refine en ?_
 refine ch h rfl ?_ ?_ <;> intro h
 ·refine att 4 [] rfl ?_
  exact rt hF h
 refine att 7 [] rfl ?_
 refine lin (σ:=Int) (fun s=>[(5,pQ b_3),(8,pQ b_5),(13,iV s)]) (fun s=>St w0 Φ_4 [(b_5,.cells #[v9,v10] 34 (0,0)),(b_3,.cells #[v5,v6] 34 (0,0))] [ob v9,D7,ob v10,D8,ob v5,D4,ob v6,D5]) (fun m s=>fe N x2 x4 m s=some r) (0) N h (sx [5,5,5,5,10,10,10,10] [2,3]) (fun n2 ih2 s hm=>?_)
 revert hm; revert s; intro s2 hm
 have h:fe N x2 x4 (n2+1) s2=some r:=hm
 show WT _ _ [(5,pQ b_3),(8,pQ b_5),(13,iV s2)] (St w0 Φ_4 [(b_5,.cells #[v9,v10] 34 (0,0)),(b_3,.cells #[v5,v6] 34 (0,0))] [ob v9,D7,ob v10,D8,ob v5,D4,ob v6,D5])
 unfold fe at h
 refine atr 6 [0,0] rfl<|lno h7 rfl<|la rfl<|en ?_
 refine ch h rfl ?_ ?_ <;> intro h
 ·refine att 4 [] rfl<|WT.draw cc (by kernel_rfl) (fun _ h=>h.drew)<|aqq 3 [0,0] rfl ?_
  obtain ⟨x11,hx10,h⟩:=bs h
  obtain ⟨cs3,F7,-,g3,hb3,hs3,r3⟩:=h7.elS (a9 hx10).2.2
  obtain ⟨v18,rfl,rfl,h16⟩:=r3
  have h17:=h16.rsl
  refine qq (ac jR rfl rfl h7.rsl hx10) rfl<|qq (ab fw rfl) rfl<|qq (au iz rfl (fun w1 hw=>(g3.of_eq 0 1 rfl rfl:rg _ _ _ [v18]).rangeAt hw.fro)) rfl<|aqq 3 [0,32] rfl ?_
  obtain ⟨x12,hx11,h⟩:=bs h
  obtain ⟨cs4,F8,-,g4,hb4,hs4,r4⟩:=h4.elS (a9 hx11).2.2
  obtain ⟨v19,rfl,rfl,h18⟩:=r4
  have h19:=h18.rsl
  refine qq (ac jR rfl rfl h4.rsl hx11) rfl<|qq (ab fw rfl) rfl<|qq (au iz rfl (fun w1 hw=>(g4.of_eq 0 1 rfl rfl:rg _ _ _ [v19]).rangeAt hw.fro)) rfl ?_
  obtain ⟨x13,hx12,h⟩:=bs h
  refine qp (cQ DP rfl (fun w1 hw=>pF N (ba hw.fro) x11.L x12.L h17 h19 hx12)) rfl<|aqt 2 [] rfl ?_
  refine ch h rfl ?_ ?_ <;> intro h
  ·refine att 4 [] rfl ?_
   exact rt hF h
  refine att 7 [] rfl ?_
  exact lb [0,0,0,0,0,0,0,0] [0,0] (ih2 _ h)
 refine atr 5 [1,0] rfl<|lno h8 rfl<|arr 2 [1,32] rfl<|lno h5 rfl<|art 3 [] rfl ?_
 exact rt hF h
end Go.Proofs.YtinomobmcjnfjaaGreat
