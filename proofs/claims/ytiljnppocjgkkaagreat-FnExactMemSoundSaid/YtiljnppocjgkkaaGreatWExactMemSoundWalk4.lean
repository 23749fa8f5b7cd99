/- Printed by a program of ours: each Go function computes its Lean function. -/
import Derived.Test.YtiljnppocjgkkaaGreatProg
import Derived.Test.YtiljnppocjgkkaaGreatWExactMemSoundWalk3
namespace Go.Proofs.YtiljnppocjgkkaaGreat
open Eng Tryz
open Go.RowKit (Below)
set_option linter.unusedVariables false
set_option linter.unusedSimpArgs false

set_option maxRecDepth 100000
set_option maxHeartbeats 1000000
variable {Ψ Φ:Hp} {pv0_0 pv1_0 pv1_1 pv2_0 pv0 pv0_1 pv1 pv0_2:Value} {pG0_0 pG1_0 pG1_1 pG2_0 pG0 pG0_1 pG1 pG0_2:List Nat} (N:Nat)
theorem B7 (w0:af Ψ Φ []) (p0:bh) (p1:bB) (p2:ae) (ph0_0:RSl bV 5 Ψ pG0_0 pv0_0 p0.Rules) (ph1_0:RSl bY 4 Ψ pG1_0 pv1_0 p1.Alphas) (ph1_1:RSl er 2 Ψ pG1_1 pv1_1 p1.Chains) (ph2_0:RSl bn 3 Ψ pG2_0 pv2_0 p2.Items) {r:aJ} (h:sk N p0 p1 p2=some r) :
  Calls prog 22 [.agg [.string p0.Name,pv0_0].toArray,.agg [pv1_0,pv1_1].toArray,.agg [pv2_0,iV p2.Next].toArray].toArray w0.w (aR Φ w0.w [] (fun Φ' Fs v=>∃ (sr_0_0:Value) (Dr_0_0:List Nat) (sr_0_1:Value) (Dr_0_1:List Nat),v = .agg [sr_0_0,sr_0_1].toArray∧Fs=[ob sr_0_0,Dr_0_0,ob sr_0_1,Dr_0_1]∧OSl bv 69 1 Φ' Dr_0_0 sr_0_0 r.Alphas∧OSl bd 72 1 Φ' Dr_0_1 sr_0_1 r.Rules)):=by
 refine eN func22 rfl ntmps22 rfl w0 fun hF=>?_
 unfold sk at h
 refine sr<|lbx rfl fun b_1=>lbx rfl fun b_2=>lbx rfl fun b_3=>lnz pj rfl fun b_4=>arr 4 [66] rfl<|kab h rfl rfl rfl (fun b z q=>xL N b p1 (ph1_0.y z) (ph1_1.y z) q) ?_
 rintro x1 h v1 Φ_1 F1 ⟨ap1,fr1,v2,D1,v3,D2,rfl,rfl,h1,h2⟩
 refine lnz pj rfl fun b_5=>soN 0 rG rfl ⟨h1.one,h2.one,trivial⟩ rfl ?_
 refine art 7 [] rfl ?_
 refine lin (σ:=Hp × (List aQ) × Value × List Nat × (List aF) × Value × List Nat × Int) (fun s=>[(3,pQ b_1),(4,pQ b_2),(5,pQ b_3),(6,pQ b_4),(7,pQ b_5),(8,iV s.2.2.2.2.2.2.2)]) (fun s=>St w0 s.1 [(b_5,.cells #[s.2.2.1,s.2.2.2.2.2.1] 43 (0,0)),(b_4,.cells #[.slice none 0 0,.slice none 0 0] 43 (0,0)),(b_3,.cells #[pv2_0,iV p2.Next] 47 (0,0)),(b_2,.cells #[pv1_0,pv1_1] 62 (0,0)),(b_1,.cells #[.string p0.Name,pv0_0] 38 (0,0))] [ob s.2.2.1,s.2.2.2.1,ob s.2.2.2.2.2.1,s.2.2.2.2.2.2.1]) (fun m s=>fG N p0 p1 p2 m s.2.1 s.2.2.2.2.1 s.2.2.2.2.2.2.2=some r∧(OSl bv 69 1 s.1 s.2.2.2.1 s.2.2.1 s.2.1)∧(OSl bd 72 1 s.1 s.2.2.2.2.2.2.1 s.2.2.2.2.2.1 s.2.2.2.2.1)) (Φ_1,x1.Alphas,v2,D1,x1.Rules,v3,D2,0) N ⟨h,h1,h2⟩ (sx [0,0,0,0] [0,0,0,0,0]) (fun n1 ih1 s hm=>?_)
 obtain ⟨Φ_2,s1,u1,D3,s2,u2,D4,s3⟩:=s
 obtain ⟨h,k1,k2⟩:=hm
 dsimp only at h k1 k2 ⊢
 unfold fG at h
 refine atr 6 [0,64] rfl<|lnr ph2_0 rfl<|la rfl<|en ?_
 refine ch h rfl ?_ ?_ <;> intro h
 ·refine att 3 [] rfl<|wm [0,1,2,3,4] [16] rfl<|amm 6 [0,130,1,98,2,0,3,64,4,5] [0,1,2,3,4] rfl rfl ?_
  obtain ⟨x2,hx2,h⟩:=bs h
  refine mqT 6 [9,16] rfl (by kernel_rfl) (kN [0,1,2,3,4]) (EZ rP rfl rfl ph2_0 hx2) rfl ?_
  obtain ⟨F2,h3,hs1⟩:=ph2_0.sub hx2
  refine amm 2 [7,1,8,64] [0,1,2,3,4] rfl rfl<|mq 9 rfl (by kernel_rfl) (kN [0,1,2,3,4]) (cA (vs:=[(0,(slc pv2_0 (0:Int).toNat (wz (s3+1)).toNat 3)),(1,iV p2.Next)]) (C:=#[(slc pv2_0 (0:Int).toNat (wz (s3+1)).toNat 3),iV p2.Next]) I1 C7 rfl (ai (C':=[(slc pv2_0 (0:Int).toNat (wz (s3+1)).toNat 3),iV 0]) rfl (ep h3.one) rfl rfl rfl (ai (C':=[(slc pv2_0 (0:Int).toNat (wz (s3+1)).toNat 3),iV p2.Next]) rfl rfl rfl rfl rfl (au)))) rfl<|amm 3 [10,0,11,64,12] [0,1,2,3,4] rfl rfl ?_
  obtain ⟨x3,hx3,h⟩:=bs h
  obtain ⟨cs1,F3,-,g1,hb1,hs2,r1⟩:=ph2_0.el (a7 hx3).2.2
  obtain ⟨v4,G1,rfl,hq1,h4⟩:=r1
  obtain rfl:=hq1.symm
  refine mqT 13 [14,15,16] rfl (by kernel_rfl) (kN [0,1,2,3,4]) (a8 rP rfl rfl ph2_0 hx3) rfl<|amm 1 [14,0] [0,1,2,3,4] rfl rfl<|mq 15 rfl (by kernel_rfl) (kN [0,1,2,3,4]) (aM rU rfl (fun w1 hw=>(g1.of_eq 0 1 rfl rfl:rg _ _ _ [iV x3.Id]).rangeAt hw.1)) rfl ?_
  refine WM.frz (js:=[0]) (R:=[(b_4,.cells #[.slice none 0 0,.slice none 0 0] 43 (0,0)),(b_3,.cells #[pv2_0,iV p2.Next] 47 (0,0)),(b_2,.cells #[pv1_0,pv1_1] 62 (0,0)),(b_1,.cells #[.string p0.Name,pv0_0] 38 (0,0))]) rfl (fun Φ_3 fr2 k3=>?_)
  replace k1:=k1.f0 fr2
  replace k2:=k2.f0 fr2
  obtain ⟨x4,hx4,h⟩:=bs h
  refine WM.one 16 (by kernel_rfl) (mc rfl (fun hc=>by cases hc) (cW (js:=[0,0,0,0,0]) (R:=[]) JV rfl rfl (fun w1 hw ap hl=>xS N (bx hw ap hl) p0 p1 (⟨s1,s2⟩:aJ) (⟨x2,p2.Next⟩:ae) x3.Id (ph0_0.y (hw.uo ap)) (ph1_0.y (hw.uo ap)) (ph1_1.y (hw.uo ap)) k1 k2 k3 (h3.y (hw.uo ap))  hx4)) rfl ?_)
  rintro v5 Φ_4 F4 ⟨ap2,fr3,v6,D5,v7,D6,rfl,rfl,h5,h6,h7⟩
  refine WM.nil (by kernel_rfl)<|att 6 [] rfl ?_
  refine WT.thw (js:=[0]) (R:=[ob v6,D5,ob v7,D6]) rfl h7 (fun Φ_5 ap3 fr4=>?_)
  replace h5:=h5.fr fr4 (ap3.q 0 rfl) (ap3.q 1 rfl)
  replace h6:=h6.fr fr4 (ap3.q 2 rfl) (ap3.q 3 rfl)
  exact lb [0,0,0,0] [0,0,0,0,0] (ih1 (_,_,_,_,_,_,_,_) ⟨h,h5,h6⟩)
 refine atr 4 [2] rfl<|soN 1 rG rfl ⟨k1.one,k2.one,trivial⟩ rfl ?_
 refine en ?_
 exact rtg [0,0,0,0] hF (aG.one (bw zI rfl (fun w1 hw=>hw.rgO (i:=1) rfl 0 2 [u1,u2] rfl) rfl)) rfl (by cases h; exact fun w1 hw=>⟨u1,D3,u2,D4,rfl,rfl,k1,k2⟩)
theorem xa (w0:af Ψ Φ []) (p0:(List aa)) (p1:Int) (p2:Int) (ph0:RSl bC 2 Ψ pG0 pv0 p0) {r:Bool} (h:mB N p0 p1 p2=some r) :
  CB w0 prog 52 [pv0,iV p1,iV p2] (.bool r):=by
 refine eN func52 rfl ntmps52 rfl w0 fun hF=>?_
 unfold mB at h
 refine att 10 [] rfl ?_
 refine lin (σ:=Int) (fun s=>[(0,pv0),(1,iV p1),(2,iV p2),(7,iV s)]) (fun s=>St w0 Φ [] []) (fun m s=>ei N p0 p1 p2 m s=some r) (0) N h (sx [] []) (fun n1 ih1 s hm=>?_)
 revert hm; revert s; intro s1 hm
 have h:ei N p0 p1 p2 (n1+1) s1=some r:=hm
 show WT _ _ [(0,pv0),(1,iV p1),(2,iV p2),(7,iV s1)] (St w0 Φ [] [])
 unfold ei at h
 refine atr 5 [] rfl<|lnr ph0 rfl<|la rfl<|en ?_
 refine ch h rfl ?_ ?_ <;> intro h
 ·refine atr 7 [] rfl ?_
  obtain ⟨x1,hx1,h⟩:=bs h
  obtain ⟨cs1,F1,-,g1,hb1,hs1,r1⟩:=ph0.el (a7 hx1).2.2
  obtain ⟨v1,G1,v2,G2,rfl,rfl,h1,h2⟩:=r1
  refine lia ph0 hx1 rfl<|lf nE rfl rfl rfl<|lhx 0 0 g1 rfl<|lnr h1 rfl<|arr 3 [] rfl ?_
  obtain ⟨b1,hb_1,h⟩:=bs h
  refine WL.cutN 9 [(31,.bool b1),(0,pv0),(1,iV p1),(2,iV p2),(7,iV s1)] ?_ (fun K=>?_)
  rotate_left
  ·refine sp 22 hb_1 rfl (fun hb_1=>?_) fun hb_1=>?_
   ·refine arr 9 [] rfl ?_
    cases hb_1
    exact ku K
   ·refine arr 2 [] rfl<|ly rfl rfl ?_
    obtain ⟨x2,hx2,hb_1⟩:=bs hb_1
    obtain ⟨cs2,F2,-,g2,hb2,hs2,r2⟩:=ph0.el (a7 hx2).2.2
    obtain ⟨v3,G3,v4,G4,rfl,rfl,h3,h4⟩:=r2
    refine lia ph0 hx2 rfl<|ly rfl rfl<|lf kU rfl rfl rfl<|ly rfl rfl<|lhx 1 0 g2 rfl<|ly rfl rfl<|lnr h4 rfl<|arr 3 [] rfl ?_
    cases hb_1
    exact ku K
  refine en ?_
  refine ch h rfl ?_ ?_ <;> intro h
  ·refine att 4 [] rfl ?_
   exact rt hF h
  refine att 7 [] rfl ?_
  exact lb [] [] (ih1 _ h)
 refine att 5 [] rfl ?_
 exact rt hF h
theorem vc (w0:af Ψ Φ []) (p0:bB) (p1:aJ) (ph0_0:RSl bY 4 Ψ pG0_0 pv0_0 p0.Alphas) (ph0_1:RSl er 2 Ψ pG0_1 pv0_1 p0.Chains) (ph1_0:RSl dp 1 Ψ pG1_0 pv1_0 p1.Alphas) (ph1_1:RSl ff 1 Ψ pG1_1 pv1_1 p1.Rules) {r:Bool} (h:kt N p0 p1=some r) :
  CB w0 prog 23 [.agg [pv0_0,pv0_1].toArray,.agg [pv1_0,pv1_1].toArray] (.bool r):=by
 refine eN func23 rfl ntmps23 rfl w0 fun hF=>?_
 unfold kt at h
 refine sr<|lbx rfl fun b_1=>lbx rfl fun b_2=>arr 7 [0,0] rfl<|lnr ph1_0 rfl<|arr 2 [0,32] rfl<|lnr ph0_0 rfl<|arr 2 [] rfl ?_
 obtain ⟨b1,hb_1,h⟩:=bs h
 refine WL.cutN 8 [(24,.bool b1),(2,pQ b_1),(3,pQ b_2)] ?_ (fun K=>?_)
 rotate_left
 ·refine sp 16 hb_1 rfl (fun hb_1=>?_) fun hb_1=>?_
  ·refine arr 8 [] rfl ?_
   cases hb_1
   exact ku K
  ·refine arr 2 [1,0] rfl<|ly rfl rfl<|lnr ph1_1 rfl<|arr 2 [1,32] rfl<|ly rfl rfl<|lnr ph0_1 rfl<|arr 2 [] rfl ?_
   cases hb_1
   exact ku K
 refine en ?_
 refine ch h rfl ?_ ?_ <;> intro h
 ·refine att 4 [] rfl ?_
  exact rt hF h
 refine att 7 [] rfl ?_
 refine lin (σ:=Int) (fun s=>[(2,pQ b_1),(3,pQ b_2),(5,iV s)]) (fun s=>St w0 Φ [(b_2,.cells #[pv1_0,pv1_1] 43 (0,0)),(b_1,.cells #[pv0_0,pv0_1] 62 (0,0))] []) (fun m s=>bo N p0 p1 m s=some r) (0) N h (sx [] [0,0]) (fun n1 ih1 s hm=>?_)
 revert hm; revert s; intro s1 hm
 have h:bo N p0 p1 (n1+1) s1=some r:=hm
 show WT _ _ [(2,pQ b_1),(3,pQ b_2),(5,iV s1)] (St w0 Φ [(b_2,.cells #[pv1_0,pv1_1] 43 (0,0)),(b_1,.cells #[pv0_0,pv0_1] 62 (0,0))] [])
 unfold bo at h
 refine atr 6 [1,0] rfl<|lnr ph1_1 rfl<|la rfl<|en ?_
 refine ch h rfl ?_ ?_ <;> intro h
 ·refine atr 8 [1,32] rfl ?_
  obtain ⟨x1,hx1,h⟩:=bs h
  obtain ⟨cs1,F1,-,g1,hb1,hs1,r1⟩:=ph0_1.el (a7 hx1).2.2
  obtain ⟨v1,G1,v2,G2,rfl,rfl,h1,h2⟩:=r1
  refine lia ph0_1 hx1 rfl<|lf sd rfl rfl rfl<|lhx 0 0 g1 rfl<|lnr h1 rfl<|arr 8 [1,0] rfl ?_
  obtain ⟨x2,hx2,h⟩:=bs h
  obtain ⟨cs2,F2,-,g2,hb2,hs2,r2⟩:=ph1_1.el (a7 hx2).2.2
  obtain ⟨v3,G3,rfl,hq1,h3⟩:=r2
  obtain rfl:=hq1.symm
  refine lia ph1_1 hx2 rfl<|lf ja rfl rfl rfl<|lhx 0 0 g2 rfl<|lnr h3 rfl<|art 3 [] rfl ?_
  refine ch h rfl ?_ ?_ <;> intro h
  ·refine att 4 [] rfl ?_
   exact rt hF h
  refine att 6 [] rfl ?_
  refine lin (σ:=Int) (fun s=>[(2,pQ b_1),(3,pQ b_2),(5,iV s1),(6,iV (x1.Pos.length:Int)),(7,iV s)]) (fun s=>St w0 Φ [(b_2,.cells #[pv1_0,pv1_1] 43 (0,0)),(b_1,.cells #[pv0_0,pv0_1] 62 (0,0))] []) (fun m s=>bJ N p0 p1 s1 (bo N p0 p1 n1) x1 m s=some r) (0) N h (sx [] [0,0]) (fun n2 ih2 s hm=>?_)
  revert hm; revert s; intro s2 hm
  have h:bJ N p0 p1 s1 (bo N p0 p1 n1) x1 (n2+1) s2=some r:=hm
  show WT _ _ [(2,pQ b_1),(3,pQ b_2),(5,iV s1),(6,iV (x1.Pos.length:Int)),(7,iV s2)] (St w0 Φ [(b_2,.cells #[pv1_0,pv1_1] 43 (0,0)),(b_1,.cells #[pv0_0,pv0_1] 62 (0,0))] [])
  unfold bJ at h
  refine att 7 [] rfl ?_
  refine ch h rfl ?_ ?_ <;> intro h
  ·refine att 15 [] rfl ?_
   refine cut (σ:=Int) (fun s=>[(2,pQ b_1),(3,pQ b_2),(5,iV s1),(6,iV (x1.Pos.length:Int)),(7,iV s2),(8,iV s)]) (fun s=>St w0 Φ [(b_2,.cells #[pv1_0,pv1_1] 43 (0,0)),(b_1,.cells #[pv0_0,pv0_1] 62 (0,0))] []) (fun s=>es N p1 s1 s2 (bJ N p0 p1 s1 (bo N p0 p1 n1) x1 n2) s=some r) (fun s hm=>?_) (fun K=>?_)
   ·clear h
    revert hm; revert s; intro s3 hm
    have h:es N p1 s1 s2 (bJ N p0 p1 s1 (bo N p0 p1 n1) x1 n2) s3=some r:=hm
    show WT _ _ [(2,pQ b_1),(3,pQ b_2),(5,iV s1),(6,iV (x1.Pos.length:Int)),(7,iV s2),(8,iV s3)] (St w0 Φ [(b_2,.cells #[pv1_0,pv1_1] 43 (0,0)),(b_1,.cells #[pv0_0,pv0_1] 62 (0,0))] [])
    unfold es at h
    refine atr 5 [1,0] rfl ?_
    obtain ⟨x3,hx3,h⟩:=bs h
    obtain ⟨cs3,F3,-,g3,hb3,hs3,r3⟩:=ph1_1.el (a7 hx3).2.2
    obtain ⟨v4,G4,rfl,hq2,h4⟩:=r3
    obtain rfl:=hq2.symm
    refine lia ph1_1 hx3 rfl<|lf ja rfl rfl rfl<|lhx 0 0 g3 rfl<|la rfl ?_
    obtain ⟨x4,hx4,h⟩:=bs h
    obtain ⟨cs4,F4,-,g4,hb4,hs4,r4⟩:=h4.el (a7 hx4).2.2
    obtain ⟨v5,G5,rfl,hq3,h5⟩:=r4
    obtain rfl:=hq3.symm
    refine lia h4 hx4 rfl<|lf gk rfl rfl rfl<|lhx 0 0 g4 rfl<|arr 3 [] rfl<|qd h (xa N · x4.Toks (wz (s2+1)) s3 h5 ·) rfl rfl rfl fun x5 h=>la rfl<|en ?_
    refine ch h rfl ?_ ?_ <;> intro h
    ·refine att 4 [] rfl ?_
     exact rt hF h
    refine att 7 [] rfl ?_
    exact lb [] [0,0] (ih2 _ h)
   refine ch h rfl ?_ ?_ <;> intro h
   ·refine atr 4 [1,32] rfl ?_
    obtain ⟨x6,hx6,h⟩:=bs h
    obtain ⟨cs5,F5,-,g5,hb5,hs5,r5⟩:=ph0_1.el (a7 hx6).2.2
    obtain ⟨v6,G6,v7,G7,rfl,rfl,h6,h7⟩:=r5
    refine lia ph0_1 hx6 rfl<|lf ua rfl rfl rfl<|lhx 1 0 g5 rfl<|lnr h7 rfl<|la rfl<|en ?_
    exact wo [] [0,0] (K _ h)
   refine WT.skip ?_
   exact wo [] [0,0] (K _ h)
  refine att 7 [] rfl ?_
  exact lb [] [0,0] (ih1 _ h)
 refine att 5 [] rfl ?_
 exact rt hF h
theorem sS (w0:af Ψ Φ []) (p0:(List aa)) (p1:aa) (ph0:RSl bC 2 Ψ pG0 pv0 p0) (ph1_0:RSl (RI .i64) 1 Ψ pG1_0 pv1_0 p1.Ids) (ph1_1:RSl (RI .i64) 1 Ψ pG1_1 pv1_1 p1.Hits) {r:Bool} (h:lC N p0 p1=some r) :
  CB w0 prog 53 [pv0,.agg [pv1_0,pv1_1].toArray] (.bool r):=by
 refine eN func53 rfl ntmps53 rfl w0 fun hF=>?_
 unfold lC at h
 refine sr<|lbx rfl fun b_1=>art 8 [] rfl ?_
 refine lin (σ:=Int) (fun s=>[(0,pv0),(3,pQ b_1),(5,iV s)]) (fun s=>St w0 Φ [(b_1,.cells #[pv1_0,pv1_1] 136 (0,0))] []) (fun m s=>eM N p0 p1 m s=some r) (0) N h (sx [] [0]) (fun n1 ih1 s hm=>?_)
 revert hm; revert s; intro s1 hm
 have h:eM N p0 p1 (n1+1) s1=some r:=hm
 show WT _ _ [(0,pv0),(3,pQ b_1),(5,iV s1)] (St w0 Φ [(b_1,.cells #[pv1_0,pv1_1] 136 (0,0))] [])
 unfold eM at h
 refine atr 5 [] rfl<|lnr ph0 rfl<|la rfl<|en ?_
 refine ch h rfl ?_ ?_ <;> intro h
 ·refine att 4 [] rfl<|WT.draw mixed (by kernel_rfl) (fun _ h=>h.drew)<|aqq 2 [] rfl ?_
  obtain ⟨x1,hx1,h⟩:=bs h
  obtain ⟨cs1,F1,-,g1,hb1,hs1,r1⟩:=ph0.el (a7 hx1).2.2
  obtain ⟨v1,G1,v2,G2,rfl,rfl,h1,h2⟩:=r1
  refine qq (a8 fj rfl rfl ph0 hx1) rfl<|qq (ax nE rfl) rfl<|qq (aM nR rfl (fun w1 hw=>(g1.of_eq 0 1 rfl rfl:rg _ _ _ [v1]).rangeAt hw.in0)) rfl<|aqq 2 [0,0] rfl ?_
  obtain ⟨x2,hx2,h⟩:=bs h
  refine qp (bH CW rfl (fun w1 hw=>jX N (ba hw.in0) x1.Ids p1.Ids h1 ph1_0 hx2)) rfl<|qq (fo rfl) rfl ?_
  obtain ⟨b1,hb_1,h⟩:=bs h
  refine WQ.cutN 9 [(29,.bool b1),(0,pv0),(3,pQ b_1),(5,iV s1)] ?_ (fun K=>?_)
  rotate_left
  ·refine WQ.split (d:=20) rfl (fun c2=>?_) (fun c2=>?_)
   ·replace hb_1:=fk hb_1 c2
    refine aqq 2 [] rfl<|WQ.yes rfl rfl ?_
    obtain ⟨x3,hx3,hb_1⟩:=bs hb_1
    obtain ⟨cs2,F2,-,g2,hb2,hs2,r2⟩:=ph0.el (a7 hx3).2.2
    obtain ⟨v3,G3,v4,G4,rfl,rfl,h3,h4⟩:=r2
    refine qq (a8 fj rfl rfl ph0 hx3) rfl<|WQ.yes rfl rfl<|qq (ax kU rfl) rfl<|WQ.yes rfl rfl<|qq (aM nR rfl (fun w1 hw=>(g2.of_eq 1 1 rfl rfl:rg _ _ _ [v4]).rangeAt hw.in0)) rfl<|aqq 2 [1,0] rfl<|WQ.yes rfl rfl ?_
    obtain ⟨x4,hx4,hb_1⟩:=bs hb_1
    refine qp (bH CW rfl (fun w1 hw=>jX N (ba hw.in0) x3.Hits p1.Hits h4 ph1_1 hx4)) rfl<|WQ.q (ph rfl rfl) rfl rfl rfl ?_
    cases hb_1
    exact kq K
   ·replace hb_1:=fg hb_1 c2
    refine aqq 9 [] rfl ?_
    cases hb_1
    exact kq K
  refine WQ.nil ?_
  refine ch h rfl ?_ ?_ <;> intro h
  ·refine att 4 [] rfl ?_
   exact rt hF h
  refine att 7 [] rfl ?_
  exact lb [] [0] (ih1 _ h)
 refine att 5 [] rfl ?_
 exact rt hF h
theorem uW (w0:af Ψ Φ []) (p0:(List aa)) (p1:(List aa)) (ph0:RSl bC 2 Ψ pG0 pv0 p0) (ph1:RSl bC 2 Ψ pG1 pv1 p1) {r:Bool} (h:jY N p0 p1=some r) :
  CB w0 prog 25 [pv0,pv1] (.bool r):=by
 refine eN func25 rfl ntmps25 rfl w0 fun hF=>?_
 unfold jY at h
 refine atr 8 [] rfl<|lnr ph0 rfl<|la rfl<|lnr ph1 rfl<|la rfl<|en ?_
 refine ch h rfl ?_ ?_ <;> intro h
 ·refine att 4 [] rfl ?_
  exact rt hF h
 refine att 7 [] rfl ?_
 refine lin (σ:=Int) (fun s=>[(0,pv0),(1,pv1),(5,iV s)]) (fun s=>St w0 Φ [] []) (fun m s=>du N p0 p1 m s=some r) (0) N h (sx [] []) (fun n1 ih1 s hm=>?_)
 revert hm; revert s; intro s1 hm
 have h:du N p0 p1 (n1+1) s1=some r:=hm
 show WT _ _ [(0,pv0),(1,pv1),(5,iV s1)] (St w0 Φ [] [])
 unfold du at h
 refine atr 5 [] rfl<|lnr ph0 rfl<|la rfl<|en ?_
 refine ch h rfl ?_ ?_ <;> intro h
 ·refine atr 8 [] rfl ?_
  obtain ⟨x1,hx1,h⟩:=bs h
  obtain ⟨cs1,F1,-,g1,hb1,hs1,r1⟩:=ph0.el (a7 hx1).2.2
  obtain ⟨v1,G1,v2,G2,rfl,rfl,h1,h2⟩:=r1
  refine lia ph0 hx1 rfl<|lhx 0 2 g1 rfl<|qd h (sS N · p1 x1 ph1 h1 h2 ·) rfl rfl rfl fun x2 h=>arr 2 [] rfl ?_
  obtain ⟨b1,hb_1,h⟩:=bs h
  refine WL.cutN 8 [(32,.bool b1),(0,pv0),(1,pv1),(5,iV s1)] ?_ (fun K=>?_)
  rotate_left
  ·refine sp 24 hb_1 rfl (fun hb_1=>?_) fun hb_1=>?_
   ·refine arr 8 [] rfl ?_
    cases hb_1
    exact ku K
   ·refine arr 3 [] rfl<|ly rfl rfl ?_
    obtain ⟨x3,hx3,hb_1⟩:=bs hb_1
    obtain ⟨cs2,F2,-,g2,hb2,hs2,r2⟩:=ph1.el (a7 hx3).2.2
    obtain ⟨v3,G3,v4,G4,rfl,rfl,h3,h4⟩:=r2
    refine lia ph1 hx3 rfl<|ly rfl rfl<|lhx 0 2 g2 rfl<|ly rfl rfl<|qd hb_1 (sS N · p0 x3 ph0 h3 h4 ·) rfl rfl rfl fun x4 hb_1=>arr 2 [] rfl ?_
    cases hb_1
    exact ku K
  refine en ?_
  refine ch h rfl ?_ ?_ <;> intro h
  ·refine att 4 [] rfl ?_
   exact rt hF h
  refine att 7 [] rfl ?_
  exact lb [] [] (ih1 _ h)
 refine att 5 [] rfl ?_
 exact rt hF h
theorem uV (w0:af Ψ Φ []) (p0:bh) (p1:aJ) (p2:ae) (ph0_0:RSl bV 5 Ψ pG0_0 pv0_0 p0.Rules) (ph1_0:RSl dp 1 Ψ pG1_0 pv1_0 p1.Alphas) (ph1_1:RSl ff 1 Ψ pG1_1 pv1_1 p1.Rules) (ph2_0:RSl bn 3 Ψ pG2_0 pv2_0 p2.Items) {r:Bool} (h:kz N p0 p1 p2=some r) :
  CB w0 prog 7 [.agg [.string p0.Name,pv0_0].toArray,.agg [pv1_0,pv1_1].toArray,.agg [pv2_0,iV p2.Next].toArray] (.bool r):=by
 refine eN func7 rfl ntmps7 rfl w0 fun hF=>?_
 unfold kz at h
 refine sr<|lbx rfl fun b_1=>lbx rfl fun b_2=>lbx rfl fun b_3=>arr 6 [66] rfl<|qd h (Bi N · p0 ph0_0 ·) rfl rfl rfl fun x1 h=>arr 2 [] rfl ?_
 obtain ⟨b1,hb_1,h⟩:=bs h
 refine WL.cutN 4 [(19,.bool b1),(3,pQ b_1),(4,pQ b_2),(5,pQ b_3)] ?_ (fun K=>?_)
 rotate_left
 ·refine sp 15 hb_1 rfl (fun hb_1=>?_) fun hb_1=>?_
  ·refine arr 4 [] rfl ?_
   cases hb_1
   exact ku K
  ·refine ly rfl rfl<|ld2 tp 0 rfl<|ly rfl rfl<|qd hb_1 (wu N · p2 ph2_0 ·) rfl rfl rfl fun x2 hb_1=>arr 2 [] rfl ?_
   cases hb_1
   exact ku K
 refine en ?_
 refine ch h rfl ?_ ?_ <;> intro h
 ·refine att 4 [] rfl ?_
  exact rt hF h
 refine atr 4 [66] rfl<|kab h rfl rfl rfl (fun b z q=>zp N b p0 (ph0_0.y z) q) ?_
 rintro x3 h v1 Φ_1 F1 ⟨ap1,fr1,v2,D1,v3,D2,X1,rfl,rfl,h1,i1,h2⟩
 refine lnz vZ rfl fun b_4=>soN 0 Cf rfl ⟨h1.one,h2.one,trivial⟩ rfl ?_
 refine arr 6 [98,2,34] rfl<|kab h rfl rfl rfl (fun b z q=>B7 N b p0 x3 p2 (ph0_0.y z) h1.rsl (h2.rslG bi.gives) (ph2_0.y z) q) ?_
 rintro x5 h v4 Φ_2 F2 ⟨ap2,fr2,v5,D3,v6,D4,rfl,rfl,h3,h4⟩
 replace h1:=h1.fr fr2 (ap2.q 0 rfl) (Dj.sub (ap2.q 3 rfl) i1)
 replace h2:=h2.fr fr2 (ap2.q 1 rfl) (ap2.q 2 rfl)
 refine lnz pj rfl fun b_5=>soN 0 rG rfl ⟨h3.one,h4.one,trivial⟩ rfl ?_
 refine arr 6 [34,98] rfl<|qz h (fun b z q=>vc N b x3 p1 h1.rsl (h2.rslG bi.gives) (ph1_0.y z) (ph1_1.y z) q) rfl rfl rfl fun x6 h=>la rfl<|en ?_
 refine ch h rfl ?_ ?_ <;> intro h
 ·refine att 4 [] rfl ?_
  exact rt hF h
 refine att 7 [] rfl ?_
 refine lin (σ:=Int) (fun s=>[(4,pQ b_2),(8,pQ b_5),(9,iV s)]) (fun s=>St w0 Φ_2 [(b_5,.cells #[v5,v6] 43 (0,0)),(b_2,.cells #[pv1_0,pv1_1] 43 (0,0))] [ob v5,D3,ob v6,D4]) (fun m s=>cP N p1 x5 m s=some r) (0) N h (sx [0,0,0,0] [0,2]) (fun n1 ih1 s hm=>?_)
 revert hm; revert s; intro s1 hm
 have h:cP N p1 x5 (n1+1) s1=some r:=hm
 show WT _ _ [(4,pQ b_2),(8,pQ b_5),(9,iV s1)] (St w0 Φ_2 [(b_5,.cells #[v5,v6] 43 (0,0)),(b_2,.cells #[pv1_0,pv1_1] 43 (0,0))] [ob v5,D3,ob v6,D4])
 unfold cP at h
 refine atr 6 [0,32] rfl<|lnr ph1_0 rfl<|la rfl<|en ?_
 refine ch h rfl ?_ ?_ <;> intro h
 ·refine att 4 [] rfl<|WT.draw mixed (by kernel_rfl) (fun _ h=>h.drew)<|aqq 3 [0,32] rfl ?_
  obtain ⟨x7,hx6,h⟩:=bs h
  obtain ⟨cs1,F3,-,g1,hb1,hs1,r1⟩:=ph1_0.el (a7 hx6).2.2
  obtain ⟨v7,G1,rfl,hq1,h5⟩:=r1
  obtain rfl:=hq1.symm
  refine qq (a8 pA rfl rfl ph1_0 hx6) rfl<|qq (ax m4 rfl) rfl<|qq (aM nR rfl (fun w1 hw=>(g1.of_eq 0 1 rfl rfl:rg _ _ _ [v7]).rangeAt hw.in0)) rfl<|aqq 3 [0,0] rfl ?_
  obtain ⟨x8,hx7,h⟩:=bs h
  obtain ⟨cs2,F4,-,g2,hb2,hs2,r2⟩:=h3.elS (a7 hx7).2.2
  obtain ⟨v8,rfl,rfl,h6⟩:=r2
  have h7:=h6.rsl
  refine qq (a8 pA rfl rfl h3.rsl hx7) rfl<|qq (ax m4 rfl) rfl<|qq (aM nR rfl (fun w1 hw=>(g2.of_eq 0 1 rfl rfl:rg _ _ _ [v8]).rangeAt hw.fro)) rfl ?_
  obtain ⟨x9,hx8,h⟩:=bs h
  refine qp (bH CW rfl (fun w1 hw=>jX N (ba hw.fro) x7.L x8.L (h5.y hw.up) h7 hx8)) rfl<|aqt 2 [] rfl ?_
  refine ch h rfl ?_ ?_ <;> intro h
  ·refine att 4 [] rfl ?_
   exact rt hF h
  refine att 7 [] rfl ?_
  exact lb [0,0,0,0] [0,0] (ih1 _ h)
 refine att 7 [] rfl ?_
 refine lin (σ:=Int) (fun s=>[(4,pQ b_2),(8,pQ b_5),(10,iV s)]) (fun s=>St w0 Φ_2 [(b_5,.cells #[v5,v6] 43 (0,0)),(b_2,.cells #[pv1_0,pv1_1] 43 (0,0))] [ob v5,D3,ob v6,D4]) (fun m s=>bP N p1 x5 m s=some r) (0) N h (sx [0,0,0,0] [0,0]) (fun n2 ih2 s hm=>?_)
 revert hm; revert s; intro s2 hm
 have h:bP N p1 x5 (n2+1) s2=some r:=hm
 show WT _ _ [(4,pQ b_2),(8,pQ b_5),(10,iV s2)] (St w0 Φ_2 [(b_5,.cells #[v5,v6] 43 (0,0)),(b_2,.cells #[pv1_0,pv1_1] 43 (0,0))] [ob v5,D3,ob v6,D4])
 unfold bP at h
 refine atr 6 [1,32] rfl<|lnr ph1_1 rfl<|la rfl<|en ?_
 refine ch h rfl ?_ ?_ <;> intro h
 ·refine att 8 [] rfl ?_
  refine lin (σ:=Int) (fun s=>[(4,pQ b_2),(8,pQ b_5),(10,iV s2),(11,iV s)]) (fun s=>St w0 Φ_2 [(b_5,.cells #[v5,v6] 43 (0,0)),(b_2,.cells #[pv1_0,pv1_1] 43 (0,0))] [ob v5,D3,ob v6,D4]) (fun m s=>cM N p1 x5 s2 (bP N p1 x5 n2) m s=some r) (0) N h (sx [0,0,0,0] [0,0]) (fun n3 ih3 s hm=>?_)
  revert hm; revert s; intro s3 hm
  have h:cM N p1 x5 s2 (bP N p1 x5 n2) (n3+1) s3=some r:=hm
  show WT _ _ [(4,pQ b_2),(8,pQ b_5),(10,iV s2),(11,iV s3)] (St w0 Φ_2 [(b_5,.cells #[v5,v6] 43 (0,0)),(b_2,.cells #[pv1_0,pv1_1] 43 (0,0))] [ob v5,D3,ob v6,D4])
  unfold cM at h
  refine atr 7 [1,32] rfl ?_
  obtain ⟨x10,hx9,h⟩:=bs h
  obtain ⟨cs3,F5,-,g3,hb3,hs3,r3⟩:=ph1_1.el (a7 hx9).2.2
  obtain ⟨v9,G2,rfl,hq2,h8⟩:=r3
  obtain rfl:=hq2.symm
  refine lia ph1_1 hx9 rfl<|lf ja rfl rfl rfl<|lhx 0 0 g3 rfl<|lnr h8 rfl<|la rfl<|en ?_
  refine ch h rfl ?_ ?_ <;> intro h
  ·refine att 4 [] rfl<|WT.draw mixed (by kernel_rfl) (fun _ h=>h.drew)<|aqq 3 [1,32] rfl ?_
   obtain ⟨x11,hx10,h⟩:=bs h
   obtain ⟨cs4,F6,-,g4,hb4,hs4,r4⟩:=ph1_1.el (a7 hx10).2.2
   obtain ⟨v10,G3,rfl,hq3,h9⟩:=r4
   obtain rfl:=hq3.symm
   refine qq (a8 tf rfl rfl ph1_1 hx10) rfl<|qq (ax ja rfl) rfl<|qq (aM Ec rfl (fun w1 hw=>(g4.of_eq 0 1 rfl rfl:rg _ _ _ [v10]).rangeAt hw.in0)) rfl<|qq (fo rfl) rfl ?_
   obtain ⟨x12,hx11,h⟩:=bs h
   obtain ⟨cs5,F7,-,g5,hb5,hs5,r5⟩:=h9.el (a7 hx11).2.2
   obtain ⟨v11,G4,rfl,hq4,h10⟩:=r5
   obtain rfl:=hq4.symm
   refine qq (a8 rn rfl rfl h9 hx11) rfl<|qq (ax gk rfl) rfl<|qq (aM Co rfl (fun w1 hw=>(g5.of_eq 0 1 rfl rfl:rg _ _ _ [v11]).rangeAt hw.in0)) rfl<|aqq 3 [1,0] rfl ?_
   obtain ⟨x13,hx12,h⟩:=bs h
   obtain ⟨cs6,F8,-,g6,hb6,hs6,r6⟩:=h4.elS (a7 hx12).2.2
   obtain ⟨v12,D5,rfl,rfl,h11⟩:=r6
   have h12:=h11.rslG aN.gives
   refine qq (a8 tf rfl rfl h4.rsl hx12) rfl<|qq (ax ja rfl) rfl<|qq (aM Ec rfl (fun w1 hw=>(g6.of_eq 0 1 rfl rfl:rg _ _ _ [v12]).rangeAt hw.fro)) rfl<|qq (fo rfl) rfl ?_
   obtain ⟨x14,hx13,h⟩:=bs h
   obtain ⟨cs7,F9,-,g7,hb7,hs7,r7⟩:=h12.el (a7 hx13).2.2
   obtain ⟨v13,G5,rfl,hq5,h13⟩:=r7
   obtain rfl:=hq5.symm
   refine qq (a8 rn rfl rfl h12 hx13) rfl<|qq (ax gk rfl) rfl<|qq (aM Co rfl (fun w1 hw=>(g7.of_eq 0 1 rfl rfl:rg _ _ _ [v13]).rangeAt hw.fro)) rfl ?_
   obtain ⟨x15,hx14,h⟩:=bs h
   refine qp (bH Jc rfl (fun w1 hw=>uW N (ba hw.fro) x12.Toks x14.Toks (h10.y hw.up) h13 hx14)) rfl<|aqt 2 [] rfl ?_
   refine ch h rfl ?_ ?_ <;> intro h
   ·refine att 4 [] rfl ?_
    exact rt hF h
   refine att 7 [] rfl ?_
   exact lb [0,0,0,0] [0,0] (ih3 _ h)
  refine att 7 [] rfl ?_
  exact lb [0,0,0,0] [0,0] (ih2 _ h)
 refine att 5 [] rfl ?_
 exact rt hF h
theorem tn  (w0:af Ψ Φ []) (p0:aP)  {r:aP} (h:lj N p0=some r) :
  CB w0 prog 191 [.agg [iV p0.K,iV p0.N,.string p0.S].toArray] (.agg [iV r.K,iV r.N,.string r.S].toArray):=by
 refine eN func191 rfl ntmps191 rfl w0 fun hF=>?_
 unfold lj at h
 refine sr<|lbx rfl fun b_1=>lnz iw rfl fun b_2=>en<|sr<|lnz iw rfl fun b_3=>arr 6 [0,64,0] rfl<|so1 0 u6 rfl rfl ?_
 refine arr 6 [1,64,1] rfl<|so1 0 u6 rfl rfl ?_
 refine arr 6 [2,64,2] rfl<|so1 0 AT rfl rfl ?_
 refine arr 4 [3] rfl<|soN 1 oZ rfl ⟨rfl,rfl,rfl,trivial⟩ rfl ?_
 refine en ?_
 refine WT.ret hF (aG.one (bw gF rfl (fun w1 hw=>hw.rgO (i:=1) rfl 0 3 [iV p0.K,iV p0.N,.string p0.S] rfl) rfl)) (fun w1 hw=>?_)
 cases h
 exact gE hw
theorem jV  (w0:af Ψ Φ []) (p0:bk)  {r:bk} (h:io N p0=some r) :
  CB w0 prog 188 [.agg [iV p0.K,.string p0.S,iV p0.V.K,iV p0.V.N,.string p0.V.S].toArray] (.agg [iV r.K,.string r.S,iV r.V.K,iV r.V.N,.string r.V.S].toArray):=by
 refine eN func188 rfl ntmps188 rfl w0 fun hF=>?_
 unfold io at h
 refine sr<|lbx rfl fun b_1=>lnz mH rfl fun b_2=>en<|sr<|lnz mH rfl fun b_3=>arr 6 [0,64,0] rfl<|so1 0 u6 rfl rfl ?_
 refine arr 6 [1,64,1] rfl<|so1 0 AT rfl rfl ?_
 refine arr 5 [2,67] rfl<|qc h (tn N · p0.V ·) rfl rfl rfl fun x1 h=>lf EL rfl rfl rfl<|soN 0 oZ rfl ⟨rfl,rfl,rfl,trivial⟩ rfl ?_
 refine arr 4 [5] rfl<|soN 1 oV rfl ⟨rfl,rfl,rfl,rfl,rfl,trivial⟩ rfl ?_
 refine en ?_
 refine WT.ret hF (aG.one (bw Bc rfl (fun w1 hw=>hw.rgO (i:=1) rfl 0 5 [iV p0.K,.string p0.S,iV x1.K,iV x1.N,.string x1.S] rfl) rfl)) (fun w1 hw=>?_)
 cases h
 exact gE hw
theorem xX (w0:af Ψ Φ []) (p0:(List bk)) (ph0:RSl cu 5 Ψ pG0 pv0 p0) {r:(List bk)} (h:nL N p0=some r) :
  Calls prog 187 [pv0].toArray w0.w (aR Φ w0.w [] (fun Φ' Fs v=>∃ (sr_0_0:Value),v=sr_0_0∧Fs=[ob sr_0_0]∧OSl cu 169 5 Φ' [] sr_0_0 r)):=by
 refine eN func187 rfl ntmps187 rfl w0 fun hF=>?_
 unfold nL at h
 refine atr 7 [] rfl<|lnr ph0 rfl ?_
 obtain ⟨x1,hx1,h⟩:=bs h
 refine le' (j5 (R:=cu) tV mH JJ rfl rfl rfl (fun _=>⟨rfl,rfl⟩) rfl rfl (Int.le_refl _) hx1 (mY hx1)) rfl ?_
 rintro v1 Φ_1 D1 ⟨fr1,h1⟩
 refine art 8 [] rfl ?_
 refine lin (σ:=Hp × (List bk) × Int) (fun s=>[(0,pv0),(3,v1),(4,iV s.2.2)]) (fun s=>St w0 s.1 [] [ob v1]) (fun m s=>jg N p0 m s.2.1 s.2.2=some r∧(OSl cu 169 5 s.1 [] v1 s.2.1)) (Φ_1,x1,0) N ⟨h,h1⟩ (sx [0] []) (fun n1 ih1 s hm=>?_)
 obtain ⟨Φ_2,s1,s2⟩:=s
 obtain ⟨h,k1⟩:=hm
 dsimp only at h k1 ⊢
 unfold jg at h
 refine atr 5 [] rfl<|lnr ph0 rfl<|la rfl<|en ?_
 refine ch h rfl ?_ ?_ <;> intro h
 ·refine atr 8 [] rfl ?_
  obtain ⟨x2,hx2,h⟩:=bs h
  obtain ⟨cs1,F1,-,g1,hb1,hs1,r1⟩:=ph0.el (a7 hx2).2.2
  obtain ⟨rfl,-⟩:=r1
  refine lia ph0 hx2 rfl<|lhx 0 5 g1 rfl<|qc h (jV N · x2 ·) rfl rfl rfl fun x3 h=>?_
  obtain ⟨x4,hx4,h⟩:=bs h
  obtain ⟨cs2,F2,-,g2,hb2,hs2,r2⟩:=k1.elS (a7 hx4).2.2
  obtain ⟨rfl,-⟩:=r2
  refine lio k1 hx4 rfl<|lu (rD (js:=[0]) (Rr:=[]) (vs:=[iV x3.K,.string x3.S,iV x3.V.K,iV x3.V.N,.string x3.V.S]) (x':=x3) cu.lasts cu.flat oV rfl rfl rfl rfl ⟨rfl,rfl,rfl,rfl,rfl,trivial⟩ rfl k1 (ir hx4) ⟨rfl,rfl⟩) rfl ?_
  rintro Φ_3 D2 ⟨⟨ap1,fr2⟩,h2⟩
  refine art 7 [] rfl ?_
  exact lb [0] [] (ih1 (_,_,_) ⟨h,h2⟩)
 refine att 6 [] rfl ?_
 exact rtg [0] hF (aG.one rfl) rfl (by cases h; exact fun w1 hw=>⟨v1,rfl,rfl,k1⟩)
theorem B5 (w0:af Ψ Φ []) (p0:ao) (ph0_0:RSl cu 5 Ψ pG0_0 pv0_0 p0.Args) {r:ao} (h:np N p0=some r) :
  Calls prog 149 [.agg [.string p0.Kind,pv0_0,.bool p0.Not].toArray].toArray w0.w (aR Φ w0.w [] (fun Φ' Fs v=>∃ (sr_0_0:Value),v = .agg [.string r.Kind,sr_0_0,.bool r.Not].toArray∧Fs=[ob sr_0_0]∧OSl cu 169 5 Φ' [] sr_0_0 r.Args)):=by
 refine eN func149 rfl ntmps149 rfl w0 fun hF=>?_
 unfold np at h
 refine sr<|lbx rfl fun b_1=>lnz mN rfl fun b_2=>en<|sr<|lnz mN rfl fun b_3=>arr 6 [0,64,0] rfl<|so1 0 AT rfl rfl ?_
 refine arr 5 [1,64] rfl<|kab h rfl rfl rfl (fun b z q=>xX N b p0.Args (ph0_0.y z) q) ?_
 rintro x1 h v1 Φ_1 F1 ⟨ap1,fr1,v2,rfl,rfl,h1⟩
 refine lf EQ rfl rfl rfl<|so1 0 Js rfl h1.one ?_
 refine arr 6 [2,64,2] rfl<|so1 0 M8 rfl rfl ?_
 refine arr 4 [3] rfl<|soN 1 pX rfl ⟨rfl,h1.one,rfl,trivial⟩ rfl ?_
 refine en ?_
 exact rtg [0] hF (aG.one (bw sY rfl (fun w1 hw=>hw.rgO (i:=1) rfl 0 3 [.string p0.Kind,v1,.bool p0.Not] rfl) rfl)) rfl (by cases h; exact fun w1 hw=>⟨v1,rfl,rfl,h1⟩)
theorem yT (w0:af Ψ Φ []) (p0:(List ao)) (ph0:RSl bt 3 Ψ pG0 pv0 p0) {r:(List ao)} (h:nU N p0=some r) :
  Calls prog 96 [pv0].toArray w0.w (aR Φ w0.w [] (fun Φ' Fs v=>∃ (sr_0_0:Value) (Dr_0_0:List Nat),v=sr_0_0∧Fs=[ob sr_0_0,Dr_0_0]∧OSl fZ 124 3 Φ' Dr_0_0 sr_0_0 r)):=by
 refine eN func96 rfl ntmps96 rfl w0 fun hF=>?_
 unfold nU at h
 refine atr 7 [] rfl<|lnr ph0 rfl ?_
 obtain ⟨x1,hx1,h⟩:=bs h
 refine le' (j5 (R:=fZ) qP mN IT rfl rfl rfl (fun _=>⟨.slice none 0 0,rfl,rfl,OSl.nil _ _ _ _⟩) rfl rfl (Int.le_refl _) hx1 (mY hx1)) rfl ?_
 rintro v1 Φ_1 D1 ⟨fr1,h1⟩
 refine wl0<|art 8 [] rfl ?_
 refine lin (σ:=Hp × (List ao) × List Nat × Int) (fun s=>[(0,pv0),(3,v1),(4,iV s.2.2.2)]) (fun s=>St w0 s.1 [] [s.2.2.1,ob v1]) (fun m s=>jf N p0 m s.2.1 s.2.2.2=some r∧(OSl fZ 124 3 s.1 s.2.2.1 v1 s.2.1)) (Φ_1,x1,[],0) N ⟨h,h1⟩ (sx [0,0] []) (fun n1 ih1 s hm=>?_)
 obtain ⟨Φ_2,s1,D2,s2⟩:=s
 obtain ⟨h,k1⟩:=hm
 dsimp only at h k1 ⊢
 unfold jf at h
 refine atr 5 [] rfl<|lnr ph0 rfl<|la rfl<|en ?_
 refine ch h rfl ?_ ?_ <;> intro h
 ·refine atr 8 [] rfl ?_
  obtain ⟨x2,hx2,h⟩:=bs h
  obtain ⟨cs1,F1,-,g1,hb1,hs1,r1⟩:=ph0.el (a7 hx2).2.2
  obtain ⟨v2,G1,rfl,hq1,h2⟩:=r1
  obtain rfl:=hq1.symm
  refine lia ph0 hx2 rfl<|lhx 0 3 g1 rfl<|kab h rfl rfl rfl (fun b z q=>B5 N b x2 (h2.y z) q) ?_
  rintro x3 h v3 Φ_3 F2 ⟨ap1,fr2,v4,rfl,rfl,h3⟩
  replace k1:=k1.fr fr2 (ap1.q 1 rfl) (ap1.q 0 rfl)
  obtain ⟨x4,hx4,h⟩:=bs h
  obtain ⟨cs2,F3,-,g2,hb2,hs2,r2⟩:=k1.elS (a7 hx4).2.2
  obtain ⟨v5,rfl,rfl,h4⟩:=r2
  have h5:=h4.rsl
  refine lio k1 hx4 rfl ?_
  have r3:fZ Φ_3 ((ob v4++[])) [.string x3.Kind,v4,.bool x3.Not] x3:=⟨v4,rfl,rfl,h3⟩
  refine lu (rN (js:=[2]) (Rr:=[ob v4,D2]) (vs:=[.string x3.Kind,v4,.bool x3.Not]) (x':=x3) fZ.lasts pX rfl rfl rfl rfl ⟨rfl,h3.one,rfl,trivial⟩ rfl k1 (ir hx4) r3 (fZ.knows _ _ _ _ r3) (fun ap=>ap.q 1 rfl) (fun ap=>by simpa [bW] using (ap.q 0 rfl))) rfl ?_
  rintro Φ_4 D3 ⟨⟨ap2,fr3⟩,sp1,h6⟩
  refine wlL [D3,ob v1] (smg [2,1] rfl (by simpa [List.append_assoc,bW] using sp1))<|art 7 [] rfl ?_
  exact lb [0,0] [] (ih1 (_,_,_,_) ⟨h,h6⟩)
 refine att 6 [] rfl ?_
 exact rtg [1,0] hF (aG.one rfl) rfl (by cases h; exact fun w1 hw=>⟨v1,D2,rfl,rfl,k1⟩)
theorem zA  (w0:af Ψ Φ []) (p0:bz)  {r:bz} (h:kZ N p0=some r) :
  CB w0 prog 150 [.agg [iV p0.Op,iV p0.L.K,.string p0.L.S,iV p0.L.V.K,iV p0.L.V.N,.string p0.L.V.S,iV p0.R.K,.string p0.R.S,iV p0.R.V.K,iV p0.R.V.N,.string p0.R.V.S].toArray] (.agg [iV r.Op,iV r.L.K,.string r.L.S,iV r.L.V.K,iV r.L.V.N,.string r.L.V.S,iV r.R.K,.string r.R.S,iV r.R.V.K,iV r.R.V.N,.string r.R.V.S].toArray):=by
 refine eN func150 rfl ntmps150 rfl w0 fun hF=>?_
 unfold kZ at h
 refine sr<|lbx rfl fun b_1=>lnz xE rfl fun b_2=>en<|sr<|lnz xE rfl fun b_3=>arr 6 [0,64,0] rfl<|so1 0 u6 rfl rfl ?_
 refine arr 5 [1,69] rfl<|qc h (jV N · p0.L ·) rfl rfl rfl fun x1 h=>lf zV rfl rfl rfl<|soN 0 oV rfl ⟨rfl,rfl,rfl,rfl,rfl,trivial⟩ rfl ?_
 refine arr 5 [6,69] rfl<|qc h (jV N · p0.R ·) rfl rfl rfl fun x2 h=>lf zS rfl rfl rfl<|soN 0 oV rfl ⟨rfl,rfl,rfl,rfl,rfl,trivial⟩ rfl ?_
 refine arr 4 [11] rfl<|soN 1 AX rfl ⟨rfl,rfl,rfl,rfl,rfl,rfl,rfl,rfl,rfl,rfl,rfl,trivial⟩ rfl ?_
 refine en ?_
 refine WT.ret hF (aG.one (bw CR rfl (fun w1 hw=>hw.rgO (i:=1) rfl 0 11 [iV p0.Op,iV x1.K,.string x1.S,iV x1.V.K,iV x1.V.N,.string x1.V.S,iV x2.K,.string x2.S,iV x2.V.K,iV x2.V.N,.string x2.V.S] rfl) rfl)) (fun w1 hw=>?_)
 cases h
 exact gE hw
theorem wB (w0:af Ψ Φ []) (p0:(List bz)) (ph0:RSl bl 11 Ψ pG0 pv0 p0) {r:(List bz)} (h:lU N p0=some r) :
  Calls prog 97 [pv0].toArray w0.w (aR Φ w0.w [] (fun Φ' Fs v=>∃ (sr_0_0:Value),v=sr_0_0∧Fs=[ob sr_0_0]∧OSl bl 183 11 Φ' [] sr_0_0 r)):=by
 refine eN func97 rfl ntmps97 rfl w0 fun hF=>?_
 unfold lU at h
 refine atr 7 [] rfl<|lnr ph0 rfl ?_
 obtain ⟨x1,hx1,h⟩:=bs h
 refine le' (j5 (R:=bl) Dv xE Iv rfl rfl rfl (fun _=>⟨rfl,rfl⟩) rfl rfl (Int.le_refl _) hx1 (mY hx1)) rfl ?_
 rintro v1 Φ_1 D1 ⟨fr1,h1⟩
 refine art 8 [] rfl ?_
 refine lin (σ:=Hp × (List bz) × Int) (fun s=>[(0,pv0),(3,v1),(4,iV s.2.2)]) (fun s=>St w0 s.1 [] [ob v1]) (fun m s=>iE N p0 m s.2.1 s.2.2=some r∧(OSl bl 183 11 s.1 [] v1 s.2.1)) (Φ_1,x1,0) N ⟨h,h1⟩ (sx [0] []) (fun n1 ih1 s hm=>?_)
 obtain ⟨Φ_2,s1,s2⟩:=s
 obtain ⟨h,k1⟩:=hm
 dsimp only at h k1 ⊢
 unfold iE at h
 refine atr 5 [] rfl<|lnr ph0 rfl<|la rfl<|en ?_
 refine ch h rfl ?_ ?_ <;> intro h
 ·refine atr 8 [] rfl ?_
  obtain ⟨x2,hx2,h⟩:=bs h
  obtain ⟨cs1,F1,-,g1,hb1,hs1,r1⟩:=ph0.el (a7 hx2).2.2
  obtain ⟨rfl,-⟩:=r1
  refine lia ph0 hx2 rfl<|lhx 0 11 g1 rfl<|qc h (zA N · x2 ·) rfl rfl rfl fun x3 h=>?_
  obtain ⟨x4,hx4,h⟩:=bs h
  obtain ⟨cs2,F2,-,g2,hb2,hs2,r2⟩:=k1.elS (a7 hx4).2.2
  obtain ⟨rfl,-⟩:=r2
  refine lio k1 hx4 rfl<|lu (rD (js:=[0]) (Rr:=[]) (vs:=[iV x3.Op,iV x3.L.K,.string x3.L.S,iV x3.L.V.K,iV x3.L.V.N,.string x3.L.V.S,iV x3.R.K,.string x3.R.S,iV x3.R.V.K,iV x3.R.V.N,.string x3.R.V.S]) (x':=x3) bl.lasts bl.flat AX rfl rfl rfl rfl ⟨rfl,rfl,rfl,rfl,rfl,rfl,rfl,rfl,rfl,rfl,rfl,trivial⟩ rfl k1 (ir hx4) ⟨rfl,rfl⟩) rfl ?_
  rintro Φ_3 D2 ⟨⟨ap1,fr2⟩,h2⟩
  refine art 7 [] rfl ?_
  exact lb [0] [] (ih1 (_,_,_) ⟨h,h2⟩)
 refine att 6 [] rfl ?_
 exact rtg [0] hF (aG.one rfl) rfl (by cases h; exact fun w1 hw=>⟨v1,rfl,rfl,k1⟩)
theorem yD  (w0:af Ψ Φ []) (p0:br)  {r:br} (h:lH N p0=some r) :
  CB w0 prog 222 [.agg [.string p0.Op,iV p0.L.K,.string p0.L.S,iV p0.L.V.K,iV p0.L.V.N,.string p0.L.V.S,iV p0.R.K,.string p0.R.S,iV p0.R.V.K,iV p0.R.V.N,.string p0.R.V.S].toArray] (.agg [.string r.Op,iV r.L.K,.string r.L.S,iV r.L.V.K,iV r.L.V.N,.string r.L.V.S,iV r.R.K,.string r.R.S,iV r.R.V.K,iV r.R.V.N,.string r.R.V.S].toArray):=by
 refine eN func222 rfl ntmps222 rfl w0 fun hF=>?_
 unfold lH at h
 refine sr<|lbx rfl fun b_1=>lnz xg rfl fun b_2=>en<|sr<|lnz xg rfl fun b_3=>arr 6 [0,64,0] rfl<|so1 0 AT rfl rfl ?_
 refine arr 5 [1,69] rfl<|qc h (jV N · p0.L ·) rfl rfl rfl fun x1 h=>lf zG rfl rfl rfl<|soN 0 oV rfl ⟨rfl,rfl,rfl,rfl,rfl,trivial⟩ rfl ?_
 refine arr 5 [6,69] rfl<|qc h (jV N · p0.R ·) rfl rfl rfl fun x2 h=>lf Ab rfl rfl rfl<|soN 0 oV rfl ⟨rfl,rfl,rfl,rfl,rfl,trivial⟩ rfl ?_
 refine arr 4 [11] rfl<|soN 1 AV rfl ⟨rfl,rfl,rfl,rfl,rfl,rfl,rfl,rfl,rfl,rfl,rfl,trivial⟩ rfl ?_
 refine en ?_
 refine WT.ret hF (aG.one (bw Db rfl (fun w1 hw=>hw.rgO (i:=1) rfl 0 11 [.string p0.Op,iV x1.K,.string x1.S,iV x1.V.K,iV x1.V.N,.string x1.V.S,iV x2.K,.string x2.S,iV x2.V.K,iV x2.V.N,.string x2.V.S] rfl) rfl)) (fun w1 hw=>?_)
 cases h
 exact gE hw
theorem wW (w0:af Ψ Φ []) (p0:(List br)) (ph0:RSl cn 11 Ψ pG0 pv0 p0) {r:(List br)} (h:mt N p0=some r) :
  Calls prog 189 [pv0].toArray w0.w (aR Φ w0.w [] (fun Φ' Fs v=>∃ (sr_0_0:Value),v=sr_0_0∧Fs=[ob sr_0_0]∧OSl cn 231 11 Φ' [] sr_0_0 r)):=by
 refine eN func189 rfl ntmps189 rfl w0 fun hF=>?_
 unfold mt at h
 refine atr 7 [] rfl<|lnr ph0 rfl ?_
 obtain ⟨x1,hx1,h⟩:=bs h
 refine le' (j5 (R:=cn) DA xg IV rfl rfl rfl (fun _=>⟨rfl,rfl⟩) rfl rfl (Int.le_refl _) hx1 (mY hx1)) rfl ?_
 rintro v1 Φ_1 D1 ⟨fr1,h1⟩
 refine art 8 [] rfl ?_
 refine lin (σ:=Hp × (List br) × Int) (fun s=>[(0,pv0),(3,v1),(4,iV s.2.2)]) (fun s=>St w0 s.1 [] [ob v1]) (fun m s=>iJ N p0 m s.2.1 s.2.2=some r∧(OSl cn 231 11 s.1 [] v1 s.2.1)) (Φ_1,x1,0) N ⟨h,h1⟩ (sx [0] []) (fun n1 ih1 s hm=>?_)
 obtain ⟨Φ_2,s1,s2⟩:=s
 obtain ⟨h,k1⟩:=hm
 dsimp only at h k1 ⊢
 unfold iJ at h
 refine atr 5 [] rfl<|lnr ph0 rfl<|la rfl<|en ?_
 refine ch h rfl ?_ ?_ <;> intro h
 ·refine atr 8 [] rfl ?_
  obtain ⟨x2,hx2,h⟩:=bs h
  obtain ⟨cs1,F1,-,g1,hb1,hs1,r1⟩:=ph0.el (a7 hx2).2.2
  obtain ⟨rfl,-⟩:=r1
  refine lia ph0 hx2 rfl<|lhx 0 11 g1 rfl<|qc h (yD N · x2 ·) rfl rfl rfl fun x3 h=>?_
  obtain ⟨x4,hx4,h⟩:=bs h
  obtain ⟨cs2,F2,-,g2,hb2,hs2,r2⟩:=k1.elS (a7 hx4).2.2
  obtain ⟨rfl,-⟩:=r2
  refine lio k1 hx4 rfl<|lu (rD (js:=[0]) (Rr:=[]) (vs:=[.string x3.Op,iV x3.L.K,.string x3.L.S,iV x3.L.V.K,iV x3.L.V.N,.string x3.L.V.S,iV x3.R.K,.string x3.R.S,iV x3.R.V.K,iV x3.R.V.N,.string x3.R.V.S]) (x':=x3) cn.lasts cn.flat AV rfl rfl rfl rfl ⟨rfl,rfl,rfl,rfl,rfl,rfl,rfl,rfl,rfl,rfl,rfl,trivial⟩ rfl k1 (ir hx4) ⟨rfl,rfl⟩) rfl ?_
  rintro Φ_3 D2 ⟨⟨ap1,fr2⟩,h2⟩
  refine art 7 [] rfl ?_
  exact lb [0] [] (ih1 (_,_,_) ⟨h,h2⟩)
 refine att 6 [] rfl ?_
 exact rtg [0] hF (aG.one rfl) rfl (by cases h; exact fun w1 hw=>⟨v1,rfl,rfl,k1⟩)
theorem BC (w0:af Ψ Φ []) (p0:bX) (ph0_0:RSl cn 11 Ψ pG0_0 pv0_0 p0.Args) {r:bX} (h:ni N p0=some r) :
  Calls prog 151 [.agg [iV p0.Kind,.string p0.Name,pv0_0,iV p0.N,.string p0.Undo].toArray].toArray w0.w (aR Φ w0.w [] (fun Φ' Fs v=>∃ (sr_0_0:Value),v = .agg [iV r.Kind,.string r.Name,sr_0_0,iV r.N,.string r.Undo].toArray∧Fs=[ob sr_0_0]∧OSl cn 231 11 Φ' [] sr_0_0 r.Args)):=by
 refine eN func151 rfl ntmps151 rfl w0 fun hF=>?_
 unfold ni at h
 refine sr<|lbx rfl fun b_1=>lnz wl rfl fun b_2=>en<|sr<|lnz wl rfl fun b_3=>arr 6 [0,64,0] rfl<|so1 0 u6 rfl rfl ?_
 refine arr 6 [1,64,1] rfl<|so1 0 AT rfl rfl ?_
 refine arr 5 [2,64] rfl<|kab h rfl rfl rfl (fun b z q=>wW N b p0.Args (ph0_0.y z) q) ?_
 rintro x1 h v1 Φ_1 F1 ⟨ap1,fr1,v2,rfl,rfl,h1⟩
 refine lf ss rfl rfl rfl<|so1 0 K0 rfl h1.one ?_
 refine arr 6 [3,64,3] rfl<|so1 0 u6 rfl rfl ?_
 refine arr 6 [4,64,4] rfl<|so1 0 AT rfl rfl ?_
 refine arr 4 [5] rfl<|soN 1 Bn rfl ⟨rfl,rfl,h1.one,rfl,rfl,trivial⟩ rfl ?_
 refine en ?_
 exact rtg [0] hF (aG.one (bw AZ rfl (fun w1 hw=>hw.rgO (i:=1) rfl 0 5 [iV p0.Kind,.string p0.Name,v1,iV p0.N,.string p0.Undo] rfl) rfl)) rfl (by cases h; exact fun w1 hw=>⟨v1,rfl,rfl,h1⟩)
theorem yn (w0:af Ψ Φ []) (p0:(List bX)) (ph0:RSl cX 5 Ψ pG0 pv0 p0) {r:(List bX)} (h:oE N p0=some r) :
  Calls prog 98 [pv0].toArray w0.w (aR Φ w0.w [] (fun Φ' Fs v=>∃ (sr_0_0:Value) (Dr_0_0:List Nat),v=sr_0_0∧Fs=[ob sr_0_0,Dr_0_0]∧OSl jo 187 5 Φ' Dr_0_0 sr_0_0 r)):=by
 refine eN func98 rfl ntmps98 rfl w0 fun hF=>?_
 unfold oE at h
 refine atr 7 [] rfl<|lnr ph0 rfl ?_
 obtain ⟨x1,hx1,h⟩:=bs h
 refine le' (j5 (R:=jo) Dc wl Ju rfl rfl rfl (fun _=>⟨.slice none 0 0,rfl,rfl,OSl.nil _ _ _ _⟩) rfl rfl (Int.le_refl _) hx1 (mY hx1)) rfl ?_
 rintro v1 Φ_1 D1 ⟨fr1,h1⟩
 refine wl0<|art 8 [] rfl ?_
 refine lin (σ:=Hp × (List bX) × List Nat × Int) (fun s=>[(0,pv0),(3,v1),(4,iV s.2.2.2)]) (fun s=>St w0 s.1 [] [s.2.2.1,ob v1]) (fun m s=>jk N p0 m s.2.1 s.2.2.2=some r∧(OSl jo 187 5 s.1 s.2.2.1 v1 s.2.1)) (Φ_1,x1,[],0) N ⟨h,h1⟩ (sx [0,0] []) (fun n1 ih1 s hm=>?_)
 obtain ⟨Φ_2,s1,D2,s2⟩:=s
 obtain ⟨h,k1⟩:=hm
 dsimp only at h k1 ⊢
 unfold jk at h
 refine atr 5 [] rfl<|lnr ph0 rfl<|la rfl<|en ?_
 refine ch h rfl ?_ ?_ <;> intro h
 ·refine atr 8 [] rfl ?_
  obtain ⟨x2,hx2,h⟩:=bs h
  obtain ⟨cs1,F1,-,g1,hb1,hs1,r1⟩:=ph0.el (a7 hx2).2.2
  obtain ⟨v2,G1,rfl,hq1,h2⟩:=r1
  obtain rfl:=hq1.symm
  refine lia ph0 hx2 rfl<|lhx 0 5 g1 rfl<|kab h rfl rfl rfl (fun b z q=>BC N b x2 (h2.y z) q) ?_
  rintro x3 h v3 Φ_3 F2 ⟨ap1,fr2,v4,rfl,rfl,h3⟩
  replace k1:=k1.fr fr2 (ap1.q 1 rfl) (ap1.q 0 rfl)
  obtain ⟨x4,hx4,h⟩:=bs h
  obtain ⟨cs2,F3,-,g2,hb2,hs2,r2⟩:=k1.elS (a7 hx4).2.2
  obtain ⟨v5,rfl,rfl,h4⟩:=r2
  have h5:=h4.rsl
  refine lio k1 hx4 rfl ?_
  have r3:jo Φ_3 ((ob v4++[])) [iV x3.Kind,.string x3.Name,v4,iV x3.N,.string x3.Undo] x3:=⟨v4,rfl,rfl,h3⟩
  refine lu (rN (js:=[2]) (Rr:=[ob v4,D2]) (vs:=[iV x3.Kind,.string x3.Name,v4,iV x3.N,.string x3.Undo]) (x':=x3) jo.lasts Bn rfl rfl rfl rfl ⟨rfl,rfl,h3.one,rfl,rfl,trivial⟩ rfl k1 (ir hx4) r3 (jo.knows _ _ _ _ r3) (fun ap=>ap.q 1 rfl) (fun ap=>by simpa [bW] using (ap.q 0 rfl))) rfl ?_
  rintro Φ_4 D3 ⟨⟨ap2,fr3⟩,sp1,h6⟩
  refine wlL [D3,ob v1] (smg [2,1] rfl (by simpa [List.append_assoc,bW] using sp1))<|art 7 [] rfl ?_
  exact lb [0,0] [] (ih1 (_,_,_,_) ⟨h,h6⟩)
 refine att 6 [] rfl ?_
 exact rtg [1,0] hF (aG.one rfl) rfl (by cases h; exact fun w1 hw=>⟨v1,D2,rfl,rfl,k1⟩)
theorem z8 (w0:af Ψ Φ []) (p0:ac) (ph0_0:RSl bt 3 Ψ pG0_0 pv0_0 p0.Pats) (ph0_1:RSl bl 11 Ψ pG0_1 pv0_1 p0.Conds) (ph0_2:RSl cX 5 Ψ pG0_2 pv0_2 p0.Acts) {r:ac} (h:l7 N p0=some r) :
  Calls prog 54 [.agg [.string p0.Name,iV p0.Sal,pv0_0,pv0_1,pv0_2].toArray].toArray w0.w (aR Φ w0.w [] (fun Φ' Fs v=>∃ (sr_0_0:Value) (Dr_0_0:List Nat) (sr_0_1:Value) (sr_0_2:Value) (Dr_0_2:List Nat),v = .agg [.string r.Name,iV r.Sal,sr_0_0,sr_0_1,sr_0_2].toArray∧Fs=[ob sr_0_0,Dr_0_0,ob sr_0_1,ob sr_0_2,Dr_0_2]∧OSl fZ 124 3 Φ' Dr_0_0 sr_0_0 r.Pats∧OSl bl 183 11 Φ' [] sr_0_1 r.Conds∧OSl jo 187 5 Φ' Dr_0_2 sr_0_2 r.Acts)):=by
 refine eN func54 rfl ntmps54 rfl w0 fun hF=>?_
 unfold l7 at h
 refine sr<|lbx rfl fun b_1=>lnz un rfl fun b_2=>en<|sr<|lnz un rfl fun b_3=>arr 6 [0,64,0] rfl<|so1 0 AT rfl rfl ?_
 refine arr 6 [1,64,1] rfl<|so1 0 u6 rfl rfl ?_
 refine arr 5 [2,64] rfl<|kab h rfl rfl rfl (fun b z q=>yT N b p0.Pats (ph0_0.y z) q) ?_
 rintro x1 h v1 Φ_1 F1 ⟨ap1,fr1,v2,D1,rfl,rfl,h1⟩
 refine lf tY rfl rfl rfl<|so1 0 Ip rfl h1.one ?_
 refine arr 5 [3,64] rfl<|kab h rfl rfl rfl (fun b z q=>wB N b p0.Conds (ph0_1.y z) q) ?_
 rintro x2 h v3 Φ_2 F2 ⟨ap2,fr2,v4,rfl,rfl,h2⟩
 replace h1:=h1.fr fr2 (ap2.q 0 rfl) (ap2.q 1 rfl)
 refine lf EI rfl rfl rfl<|so1 0 Jf rfl h2.one ?_
 refine arr 5 [4,64] rfl<|kab h rfl rfl rfl (fun b z q=>yn N b p0.Acts (ph0_2.y z) q) ?_
 rintro x3 h v5 Φ_3 F3 ⟨ap3,fr3,v6,D2,rfl,rfl,h3⟩
 replace h1:=h1.fr fr3 (ap3.q 1 rfl) (ap3.q 2 rfl)
 replace h2:=h2.fr fr3 (ap3.q 0 rfl) dN
 refine lf EA rfl rfl rfl<|so1 0 IA rfl h3.one ?_
 refine arr 4 [5] rfl<|soN 1 vD rfl ⟨rfl,rfl,h1.one,h2.one,h3.one,trivial⟩ rfl ?_
 refine en ?_
 exact rtg [3,3,2,0,0] hF (aG.one (bw mQ rfl (fun w1 hw=>hw.rgO (i:=1) rfl 0 5 [.string p0.Name,iV p0.Sal,v1,v3,v5] rfl) rfl)) rfl (by cases h; exact fun w1 hw=>⟨v1,D1,v3,v5,D2,rfl,rfl,h1,h2,h3⟩)
theorem w9 (w0:af Ψ Φ []) (p0:(List ac)) (ph0:RSl bV 5 Ψ pG0 pv0 p0) {r:(List ac)} (h:lY N p0=some r) :
  Calls prog 26 [pv0].toArray w0.w (aR Φ w0.w [] (fun Φ' Fs v=>∃ (sr_0_0:Value) (Dr_0_0:List Nat),v=sr_0_0∧Fs=[ob sr_0_0,Dr_0_0]∧OSl eF 109 5 Φ' Dr_0_0 sr_0_0 r)):=by
 refine eN func26 rfl ntmps26 rfl w0 fun hF=>?_
 unfold lY at h
 refine atr 7 [] rfl<|lnr ph0 rfl ?_
 obtain ⟨x1,hx1,h⟩:=bs h
 refine le' (j5 (R:=eF) zT un JL rfl rfl rfl (fun _=>⟨.slice none 0 0,[],.slice none 0 0,.slice none 0 0,[],rfl,rfl,OSl.nil _ _ _ _,OSl.nil _ _ _ _,OSl.nil _ _ _ _⟩) rfl rfl (Int.le_refl _) hx1 (mY hx1)) rfl ?_
 rintro v1 Φ_1 D1 ⟨fr1,h1⟩
 refine wl0<|art 8 [] rfl ?_
 refine lin (σ:=Hp × (List ac) × List Nat × Int) (fun s=>[(0,pv0),(3,v1),(4,iV s.2.2.2)]) (fun s=>St w0 s.1 [] [s.2.2.1,ob v1]) (fun m s=>iG N p0 m s.2.1 s.2.2.2=some r∧(OSl eF 109 5 s.1 s.2.2.1 v1 s.2.1)) (Φ_1,x1,[],0) N ⟨h,h1⟩ (sx [0,0] []) (fun n1 ih1 s hm=>?_)
 obtain ⟨Φ_2,s1,D2,s2⟩:=s
 obtain ⟨h,k1⟩:=hm
 dsimp only at h k1 ⊢
 unfold iG at h
 refine atr 5 [] rfl<|lnr ph0 rfl<|la rfl<|en ?_
 refine ch h rfl ?_ ?_ <;> intro h
 ·refine atr 8 [] rfl ?_
  obtain ⟨x2,hx2,h⟩:=bs h
  obtain ⟨cs1,F1,-,g1,hb1,hs1,r1⟩:=ph0.el (a7 hx2).2.2
  obtain ⟨v2,G1,v3,G2,v4,G3,rfl,rfl,h2,h3,h4⟩:=r1
  refine lia ph0 hx2 rfl<|lhx 0 5 g1 rfl<|kab h rfl rfl rfl (fun b z q=>z8 N b x2 (h2.y z) (h3.y z) (h4.y z) q) ?_
  rintro x3 h v5 Φ_3 F2 ⟨ap1,fr2,v6,D3,v7,v8,D4,rfl,rfl,h5,h6,h7⟩
  replace k1:=k1.fr fr2 (ap1.q 1 rfl) (ap1.q 0 rfl)
  obtain ⟨x4,hx4,h⟩:=bs h
  obtain ⟨cs2,F3,-,g2,hb2,hs2,r2⟩:=k1.elS (a7 hx4).2.2
  obtain ⟨v9,D5,v10,v11,D6,rfl,rfl,h8,h9,h10⟩:=r2
  have h11:=h8.rslG fZ.gives
  have h12:=h9.rsl
  have h13:=h10.rslG jo.gives
  refine lio k1 hx4 rfl ?_
  have r3:eF Φ_3 ((ob v6++D3)++((ob v7++[])++((ob v8++D4)))) [.string x3.Name,iV x3.Sal,v6,v7,v8] x3:=⟨v6,D3,v7,v8,D4,rfl,rfl,h5,h6,h7⟩
  refine lu (rN (js:=[6]) (Rr:=[ob v6,D3,ob v7,ob v8,D4,D2]) (vs:=[.string x3.Name,iV x3.Sal,v6,v7,v8]) (x':=x3) eF.lasts vD rfl rfl rfl rfl ⟨rfl,rfl,h5.one,h6.one,h7.one,trivial⟩ rfl k1 (ir hx4) r3 (eF.knows _ _ _ _ r3) (fun ap=>ap.q 5 rfl) (fun ap=>by simpa [bW] using (Dj.app (ap.q 0 rfl) (Dj.app (ap.q 1 rfl) (Dj.app (ap.q 2 rfl) (Dj.app (ap.q 3 rfl) (ap.q 4 rfl))))))) rfl ?_
  rintro Φ_4 D7 ⟨⟨ap2,fr3⟩,sp1,h14⟩
  refine wlL [D7,ob v1] (smg [6,1,1,1,1,1] rfl (by simpa [List.append_assoc,bW] using sp1))<|art 7 [] rfl ?_
  exact lb [0,0] [] (ih1 (_,_,_,_) ⟨h,h14⟩)
 refine att 6 [] rfl ?_
 exact rtg [1,0] hF (aG.one rfl) rfl (by cases h; exact fun w1 hw=>⟨v1,D2,rfl,rfl,k1⟩)
theorem qZ (w0:af Ψ Φ []) (p0:bh) (ph0_0:RSl bV 5 Ψ pG0_0 pv0_0 p0.Rules) {r:bh} (h:lE N p0=some r) :
  Calls prog 8 [.agg [.string p0.Name,pv0_0].toArray].toArray w0.w (aR Φ w0.w [] (fun Φ' Fs v=>∃ (sr_0_0:Value) (Dr_0_0:List Nat),v = .agg [.string r.Name,sr_0_0].toArray∧Fs=[ob sr_0_0,Dr_0_0]∧OSl eF 109 5 Φ' Dr_0_0 sr_0_0 r.Rules)):=by
 refine eN func8 rfl ntmps8 rfl w0 fun hF=>?_
 unfold lE at h
 refine sr<|lbx rfl fun b_1=>lnz Gx rfl fun b_2=>en<|sr<|lnz Gx rfl fun b_3=>arr 6 [0,64,0] rfl<|so1 0 AT rfl rfl ?_
 refine arr 5 [1,64] rfl<|kab h rfl rfl rfl (fun b z q=>w9 N b p0.Rules (ph0_0.y z) q) ?_
 rintro x1 h v1 Φ_1 F1 ⟨ap1,fr1,v2,D1,rfl,rfl,h1⟩
 refine lf Fy rfl rfl rfl<|so1 0 Kc rfl h1.one ?_
 refine arr 4 [2] rfl<|soN 1 I3 rfl ⟨rfl,h1.one,trivial⟩ rfl ?_
 refine en ?_
 exact rtg [0,0] hF (aG.one (bw HV rfl (fun w1 hw=>hw.rgO (i:=1) rfl 0 2 [.string p0.Name,v1] rfl) rfl)) rfl (by cases h; exact fun w1 hw=>⟨v1,D1,rfl,rfl,h1⟩)
theorem pM (w0:af Ψ Φ []) (p0:(List Int)) (ph0:RSl (RI .i64) 1 Ψ pG0 pv0 p0) {r:(List Int)} (h:jx N p0=some r) :
  Calls prog 99 [pv0].toArray w0.w (aR Φ w0.w [] (fun Φ' Fs v=>∃ (sr_0_0:Value),v=sr_0_0∧Fs=[ob sr_0_0]∧OSl (RI .i64) 3 1 Φ' [] sr_0_0 r)):=by
 refine eN func99 rfl ntmps99 rfl w0 fun hF=>?_
 unfold jx at h
 refine atr 7 [] rfl<|lnr ph0 rfl ?_
 obtain ⟨x1,hx1,h⟩:=bs h
 refine le' (j5 (R:=(RI .i64)) bD pb La rfl rfl rfl (fun _=>⟨rfl,rfl⟩) rfl rfl (Int.le_refl _) hx1 (mY hx1)) rfl ?_
 rintro v1 Φ_1 D1 ⟨fr1,h1⟩
 refine art 8 [] rfl ?_
 refine lin (σ:=Hp × (List Int) × Int) (fun s=>[(0,pv0),(3,v1),(4,iV s.2.2)]) (fun s=>St w0 s.1 [] [ob v1]) (fun m s=>j8 N p0 m s.2.1 s.2.2=some r∧(OSl (RI .i64) 3 1 s.1 [] v1 s.2.1)) (Φ_1,x1,0) N ⟨h,h1⟩ (sx [0] []) (fun n1 ih1 s hm=>?_)
 obtain ⟨Φ_2,s1,s2⟩:=s
 obtain ⟨h,k1⟩:=hm
 dsimp only at h k1 ⊢
 unfold j8 at h
 refine atr 5 [] rfl<|lnr ph0 rfl<|la rfl<|en ?_
 refine ch h rfl ?_ ?_ <;> intro h
 ·refine atr 8 [] rfl ?_
  obtain ⟨x2,hx2,h⟩:=bs h
  obtain ⟨cs1,F1,-,g1,hb1,hs1,r1⟩:=ph0.el (a7 hx2).2.2
  obtain ⟨rfl,-⟩:=r1
  refine lia ph0 hx2 rfl<|lhx 0 0 g1 rfl ?_
  obtain ⟨x3,hx3,h⟩:=bs h
  obtain ⟨cs2,F2,-,g2,hb2,hs2,r2⟩:=k1.elS (a7 hx3).2.2
  obtain ⟨rfl,-⟩:=r2
  refine lio k1 hx3 rfl<|lu (rD (js:=[0]) (Rr:=[]) (vs:=[iV x2]) (x':=x2) RI.lasts RI.flat u6 rfl rfl rfl rfl ⟨rfl,trivial⟩ rfl k1 (ir hx3) ⟨rfl,rfl⟩) rfl ?_
  rintro Φ_3 D2 ⟨⟨ap1,fr2⟩,h2⟩
  refine art 7 [] rfl ?_
  exact lb [0] [] (ih1 (_,_,_) ⟨h,h2⟩)
 refine att 6 [] rfl ?_
 exact rtg [0] hF (aG.one rfl) rfl (by cases h; exact fun w1 hw=>⟨v1,rfl,rfl,k1⟩)
theorem B9 (w0:af Ψ Φ []) (p0:aQ) (ph0_0:RSl (RI .i64) 1 Ψ pG0_0 pv0_0 p0.L) {r:aQ} (h:nB N p0=some r) :
  Calls prog 55 [.agg [pv0_0].toArray].toArray w0.w (aR Φ w0.w [] (fun Φ' Fs v=>∃ (sr_0_0:Value),v = .agg [sr_0_0].toArray∧Fs=[ob sr_0_0]∧OSl (RI .i64) 3 1 Φ' [] sr_0_0 r.L)):=by
 refine eN func55 rfl ntmps55 rfl w0 fun hF=>?_
 unfold nB at h
 refine sr ?_
 refine ln (jI (C:=#[pv0_0]) rfl rfl) rfl (fun b_1=>?_)
 refine ln (gD (C:=#[.slice none 0 0]) uI rfl) rfl (fun b_2=>?_)
 refine en<|sr ?_
 refine ln (gD (C:=#[.slice none 0 0]) uI rfl) rfl (fun b_3=>?_)
 refine arr 5 [0,64] rfl<|kab h rfl rfl rfl (fun b z q=>pM N b p0.L (ph0_0.y z) q) ?_
 rintro x1 h v1 Φ_1 F1 ⟨ap1,fr1,v2,rfl,rfl,h1⟩
 refine lf m4 rfl rfl rfl<|so1 0 qm rfl h1.one ?_
 refine en<|sr<|lq (aq Aj rfl (fun w1 hw=>hw.rgO (i:=0) rfl 0 1 [v1] rfl) rfl) rfl<|soN 1 Eh rfl ⟨h1.one,trivial⟩ rfl ?_
 refine en ?_
 exact rtg [0] hF (aG.one (bw Aj rfl (fun w1 hw=>hw.rgO (i:=1) rfl 0 1 [v1] rfl) rfl)) rfl (by cases h; exact fun w1 hw=>⟨v1,rfl,rfl,h1⟩)
theorem yz (w0:af Ψ Φ []) (p0:(List aQ)) (ph0:RSl dp 1 Ψ pG0 pv0 p0) {r:(List aQ)} (h:o4 N p0=some r) :
  Calls prog 27 [pv0].toArray w0.w (aR Φ w0.w [] (fun Φ' Fs v=>∃ (sr_0_0:Value) (Dr_0_0:List Nat),v=sr_0_0∧Fs=[ob sr_0_0,Dr_0_0]∧OSl bv 69 1 Φ' Dr_0_0 sr_0_0 r)):=by
 refine eN func27 rfl ntmps27 rfl w0 fun hF=>?_
 unfold o4 at h
 refine atr 7 [] rfl<|lnr ph0 rfl ?_
 obtain ⟨x1,hx1,h⟩:=bs h
 refine le' (j5 (R:=bv) pA uI HP rfl rfl rfl (fun _=>⟨.slice none 0 0,rfl,rfl,OSl.nil _ _ _ _⟩) rfl rfl (Int.le_refl _) hx1 (mY hx1)) rfl ?_
 rintro v1 Φ_1 D1 ⟨fr1,h1⟩
 refine wl0<|art 8 [] rfl ?_
 refine lin (σ:=Hp × (List aQ) × List Nat × Int) (fun s=>[(0,pv0),(3,v1),(4,iV s.2.2.2)]) (fun s=>St w0 s.1 [] [s.2.2.1,ob v1]) (fun m s=>j9 N p0 m s.2.1 s.2.2.2=some r∧(OSl bv 69 1 s.1 s.2.2.1 v1 s.2.1)) (Φ_1,x1,[],0) N ⟨h,h1⟩ (sx [0,0] []) (fun n1 ih1 s hm=>?_)
 obtain ⟨Φ_2,s1,D2,s2⟩:=s
 obtain ⟨h,k1⟩:=hm
 dsimp only at h k1 ⊢
 unfold j9 at h
 refine atr 5 [] rfl<|lnr ph0 rfl<|la rfl<|en ?_
 refine ch h rfl ?_ ?_ <;> intro h
 ·refine atr 8 [] rfl ?_
  obtain ⟨x2,hx2,h⟩:=bs h
  obtain ⟨cs1,F1,-,g1,hb1,hs1,r1⟩:=ph0.el (a7 hx2).2.2
  obtain ⟨v2,G1,rfl,hq1,h2⟩:=r1
  obtain rfl:=hq1.symm
  refine lia ph0 hx2 rfl<|lhx 0 1 g1 rfl<|kab h rfl rfl rfl (fun b z q=>B9 N b x2 (h2.y z) q) ?_
  rintro x3 h v3 Φ_3 F2 ⟨ap1,fr2,v4,rfl,rfl,h3⟩
  replace k1:=k1.fr fr2 (ap1.q 1 rfl) (ap1.q 0 rfl)
  obtain ⟨x4,hx4,h⟩:=bs h
  obtain ⟨cs2,F3,-,g2,hb2,hs2,r2⟩:=k1.elS (a7 hx4).2.2
  obtain ⟨v5,rfl,rfl,h4⟩:=r2
  have h5:=h4.rsl
  refine lio k1 hx4 rfl ?_
  have r3:bv Φ_3 ((ob v4++[])) [v4] x3:=⟨v4,rfl,rfl,h3⟩
  refine lu (rN (js:=[2]) (Rr:=[ob v4,D2]) (vs:=[v4]) (x':=x3) bv.lasts Eh rfl rfl rfl rfl ⟨h3.one,trivial⟩ rfl k1 (ir hx4) r3 (bv.knows _ _ _ _ r3) (fun ap=>ap.q 1 rfl) (fun ap=>by simpa [bW] using (ap.q 0 rfl))) rfl ?_
  rintro Φ_4 D3 ⟨⟨ap2,fr3⟩,sp1,h6⟩
  refine wlL [D3,ob v1] (smg [2,1] rfl (by simpa [List.append_assoc,bW] using sp1))<|art 7 [] rfl ?_
  exact lb [0,0] [] (ih1 (_,_,_,_) ⟨h,h6⟩)
 refine att 6 [] rfl ?_
 exact rtg [1,0] hF (aG.one rfl) rfl (by cases h; exact fun w1 hw=>⟨v1,D2,rfl,rfl,k1⟩)
theorem BJ (w0:af Ψ Φ []) (p0:aa) (ph0_0:RSl (RI .i64) 1 Ψ pG0_0 pv0_0 p0.Ids) (ph0_1:RSl (RI .i64) 1 Ψ pG0_1 pv0_1 p0.Hits) {r:aa} (h:nA N p0=some r) :
  Calls prog 223 [.agg [pv0_0,pv0_1].toArray].toArray w0.w (aR Φ w0.w [] (fun Φ' Fs v=>∃ (sr_0_0:Value) (sr_0_1:Value),v = .agg [sr_0_0,sr_0_1].toArray∧Fs=[ob sr_0_0,ob sr_0_1]∧OSl (RI .i64) 3 1 Φ' [] sr_0_0 r.Ids∧OSl (RI .i64) 3 1 Φ' [] sr_0_1 r.Hits)):=by
 refine eN func223 rfl ntmps223 rfl w0 fun hF=>?_
 unfold nA at h
 refine sr<|lbx rfl fun b_1=>lnz iu rfl fun b_2=>en<|sr<|lnz iu rfl fun b_3=>arr 5 [0,64] rfl<|kab h rfl rfl rfl (fun b z q=>pM N b p0.Ids (ph0_0.y z) q) ?_
 rintro x1 h v1 Φ_1 F1 ⟨ap1,fr1,v2,rfl,rfl,h1⟩
 refine lf nE rfl rfl rfl<|so1 0 qm rfl h1.one ?_
 refine arr 5 [1,64] rfl<|kab h rfl rfl rfl (fun b z q=>pM N b p0.Hits (ph0_1.y z) q) ?_
 rintro x2 h v3 Φ_2 F2 ⟨ap2,fr2,v4,rfl,rfl,h2⟩
 replace h1:=h1.fr fr2 (ap2.q 0 rfl) dN
 refine lf kU rfl rfl rfl<|so1 0 qm rfl h2.one ?_
 refine arr 4 [2] rfl<|soN 1 pH rfl ⟨h1.one,h2.one,trivial⟩ rfl ?_
 refine en ?_
 exact rtg [1,0] hF (aG.one (bw vv rfl (fun w1 hw=>hw.rgO (i:=1) rfl 0 2 [v1,v3] rfl) rfl)) rfl (by cases h; exact fun w1 hw=>⟨v1,v3,rfl,rfl,h1,h2⟩)
theorem yF (w0:af Ψ Φ []) (p0:(List aa)) (ph0:RSl bC 2 Ψ pG0 pv0 p0) {r:(List aa)} (h:nT N p0=some r) :
  Calls prog 190 [pv0].toArray w0.w (aR Φ w0.w [] (fun Φ' Fs v=>∃ (sr_0_0:Value) (Dr_0_0:List Nat),v=sr_0_0∧Fs=[ob sr_0_0,Dr_0_0]∧OSl aL 136 2 Φ' Dr_0_0 sr_0_0 r)):=by
 refine eN func190 rfl ntmps190 rfl w0 fun hF=>?_
 unfold nT at h
 refine atr 7 [] rfl<|lnr ph0 rfl ?_
 obtain ⟨x1,hx1,h⟩:=bs h
 refine le' (j5 (R:=aL) fj iu JZ rfl rfl rfl (fun _=>⟨.slice none 0 0,.slice none 0 0,rfl,rfl,OSl.nil _ _ _ _,OSl.nil _ _ _ _⟩) rfl rfl (Int.le_refl _) hx1 (mY hx1)) rfl ?_
 rintro v1 Φ_1 D1 ⟨fr1,h1⟩
 refine wl0<|art 8 [] rfl ?_
 refine lin (σ:=Hp × (List aa) × List Nat × Int) (fun s=>[(0,pv0),(3,v1),(4,iV s.2.2.2)]) (fun s=>St w0 s.1 [] [s.2.2.1,ob v1]) (fun m s=>j7 N p0 m s.2.1 s.2.2.2=some r∧(OSl aL 136 2 s.1 s.2.2.1 v1 s.2.1)) (Φ_1,x1,[],0) N ⟨h,h1⟩ (sx [0,0] []) (fun n1 ih1 s hm=>?_)
 obtain ⟨Φ_2,s1,D2,s2⟩:=s
 obtain ⟨h,k1⟩:=hm
 dsimp only at h k1 ⊢
 unfold j7 at h
 refine atr 5 [] rfl<|lnr ph0 rfl<|la rfl<|en ?_
 refine ch h rfl ?_ ?_ <;> intro h
 ·refine atr 8 [] rfl ?_
  obtain ⟨x2,hx2,h⟩:=bs h
  obtain ⟨cs1,F1,-,g1,hb1,hs1,r1⟩:=ph0.el (a7 hx2).2.2
  obtain ⟨v2,G1,v3,G2,rfl,rfl,h2,h3⟩:=r1
  refine lia ph0 hx2 rfl<|lhx 0 2 g1 rfl<|kab h rfl rfl rfl (fun b z q=>BJ N b x2 (h2.y z) (h3.y z) q) ?_
  rintro x3 h v4 Φ_3 F2 ⟨ap1,fr2,v5,v6,rfl,rfl,h4,h5⟩
  replace k1:=k1.fr fr2 (ap1.q 1 rfl) (ap1.q 0 rfl)
  obtain ⟨x4,hx4,h⟩:=bs h
  obtain ⟨cs2,F3,-,g2,hb2,hs2,r2⟩:=k1.elS (a7 hx4).2.2
  obtain ⟨v7,v8,rfl,rfl,h6,h7⟩:=r2
  have h8:=h6.rsl
  have h9:=h7.rsl
  refine lio k1 hx4 rfl ?_
  have r3:aL Φ_3 ((ob v5++[])++((ob v6++[]))) [v5,v6] x3:=⟨v5,v6,rfl,rfl,h4,h5⟩
  refine lu (rN (js:=[3]) (Rr:=[ob v5,ob v6,D2]) (vs:=[v5,v6]) (x':=x3) aL.lasts pH rfl rfl rfl rfl ⟨h4.one,h5.one,trivial⟩ rfl k1 (ir hx4) r3 (aL.knows _ _ _ _ r3) (fun ap=>ap.q 2 rfl) (fun ap=>by simpa [bW] using (Dj.app (ap.q 0 rfl) (ap.q 1 rfl)))) rfl ?_
  rintro Φ_4 D3 ⟨⟨ap2,fr3⟩,sp1,h10⟩
  refine wlL [D3,ob v1] (smg [3,1,1] rfl (by simpa [List.append_assoc,bW] using sp1))<|art 7 [] rfl ?_
  exact lb [0,0] [] (ih1 (_,_,_,_) ⟨h,h10⟩)
 refine att 6 [] rfl ?_
 exact rtg [1,0] hF (aG.one rfl) rfl (by cases h; exact fun w1 hw=>⟨v1,D2,rfl,rfl,k1⟩)
theorem vQ (w0:af Ψ Φ []) (p0:ab) (ph0_0:RSl bC 2 Ψ pG0_0 pv0_0 p0.Toks) {r:ab} (h:jS N p0=some r) :
  Calls prog 152 [.agg [pv0_0].toArray].toArray w0.w (aR Φ w0.w [] (fun Φ' Fs v=>∃ (sr_0_0:Value) (Dr_0_0:List Nat),v = .agg [sr_0_0].toArray∧Fs=[ob sr_0_0,Dr_0_0]∧OSl aL 136 2 Φ' Dr_0_0 sr_0_0 r.Toks)):=by
 refine eN func152 rfl ntmps152 rfl w0 fun hF=>?_
 unfold jS at h
 refine sr ?_
 refine ln (jI (C:=#[pv0_0]) rfl rfl) rfl (fun b_1=>?_)
 refine ln (gD (C:=#[.slice none 0 0]) uC rfl) rfl (fun b_2=>?_)
 refine en<|sr ?_
 refine ln (gD (C:=#[.slice none 0 0]) uC rfl) rfl (fun b_3=>?_)
 refine arr 5 [0,64] rfl<|kab h rfl rfl rfl (fun b z q=>yF N b p0.Toks (ph0_0.y z) q) ?_
 rintro x1 h v1 Φ_1 F1 ⟨ap1,fr1,v2,D1,rfl,rfl,h1⟩
 refine lf gk rfl rfl rfl<|so1 0 Gr rfl h1.one ?_
 refine en<|sr<|lq (aq zW rfl (fun w1 hw=>hw.rgO (i:=0) rfl 0 1 [v1] rfl) rfl) rfl<|soN 1 E7 rfl ⟨h1.one,trivial⟩ rfl ?_
 refine en ?_
 exact rtg [0,0] hF (aG.one (bw zW rfl (fun w1 hw=>hw.rgO (i:=1) rfl 0 1 [v1] rfl) rfl)) rfl (by cases h; exact fun w1 hw=>⟨v1,D1,rfl,rfl,h1⟩)
theorem uL (w0:af Ψ Φ []) (p0:(List ab)) (ph0:RSl cc 1 Ψ pG0 pv0 p0) {r:(List ab)} (h:kM N p0=some r) :
  Calls prog 100 [pv0].toArray w0.w (aR Φ w0.w [] (fun Φ' Fs v=>∃ (sr_0_0:Value) (Dr_0_0:List Nat),v=sr_0_0∧Fs=[ob sr_0_0,Dr_0_0]∧OSl aN 76 1 Φ' Dr_0_0 sr_0_0 r)):=by
 refine eN func100 rfl ntmps100 rfl w0 fun hF=>?_
 unfold kM at h
 refine atr 7 [] rfl<|lnr ph0 rfl ?_
 obtain ⟨x1,hx1,h⟩:=bs h
 refine le' (j5 (R:=aN) rn uC I4 rfl rfl rfl (fun _=>⟨.slice none 0 0,[],rfl,rfl,OSl.nil _ _ _ _⟩) rfl rfl (Int.le_refl _) hx1 (mY hx1)) rfl ?_
 rintro v1 Φ_1 D1 ⟨fr1,h1⟩
 refine wl0<|art 8 [] rfl ?_
 refine lin (σ:=Hp × (List ab) × List Nat × Int) (fun s=>[(0,pv0),(3,v1),(4,iV s.2.2.2)]) (fun s=>St w0 s.1 [] [s.2.2.1,ob v1]) (fun m s=>gR N p0 m s.2.1 s.2.2.2=some r∧(OSl aN 76 1 s.1 s.2.2.1 v1 s.2.1)) (Φ_1,x1,[],0) N ⟨h,h1⟩ (sx [0,0] []) (fun n1 ih1 s hm=>?_)
 obtain ⟨Φ_2,s1,D2,s2⟩:=s
 obtain ⟨h,k1⟩:=hm
 dsimp only at h k1 ⊢
 unfold gR at h
 refine atr 5 [] rfl<|lnr ph0 rfl<|la rfl<|en ?_
 refine ch h rfl ?_ ?_ <;> intro h
 ·refine atr 8 [] rfl ?_
  obtain ⟨x2,hx2,h⟩:=bs h
  obtain ⟨cs1,F1,-,g1,hb1,hs1,r1⟩:=ph0.el (a7 hx2).2.2
  obtain ⟨v2,G1,rfl,hq1,h2⟩:=r1
  obtain rfl:=hq1.symm
  refine lia ph0 hx2 rfl<|lhx 0 1 g1 rfl<|kab h rfl rfl rfl (fun b z q=>vQ N b x2 (h2.y z) q) ?_
  rintro x3 h v3 Φ_3 F2 ⟨ap1,fr2,v4,D3,rfl,rfl,h3⟩
  replace k1:=k1.fr fr2 (ap1.q 1 rfl) (ap1.q 0 rfl)
  obtain ⟨x4,hx4,h⟩:=bs h
  obtain ⟨cs2,F3,-,g2,hb2,hs2,r2⟩:=k1.elS (a7 hx4).2.2
  obtain ⟨v5,D4,rfl,rfl,h4⟩:=r2
  have h5:=h4.rslG aL.gives
  refine lio k1 hx4 rfl ?_
  have r3:aN Φ_3 ((ob v4++D3)) [v4] x3:=⟨v4,D3,rfl,rfl,h3⟩
  refine lu (rN (js:=[3]) (Rr:=[ob v4,D3,D2]) (vs:=[v4]) (x':=x3) aN.lasts E7 rfl rfl rfl rfl ⟨h3.one,trivial⟩ rfl k1 (ir hx4) r3 (aN.knows _ _ _ _ r3) (fun ap=>ap.q 2 rfl) (fun ap=>by simpa [bW] using (Dj.app (ap.q 0 rfl) (ap.q 1 rfl)))) rfl ?_
  rintro Φ_4 D5 ⟨⟨ap2,fr3⟩,sp1,h6⟩
  refine wlL [D5,ob v1] (smg [3,1,1] rfl (by simpa [List.append_assoc,bW] using sp1))<|art 7 [] rfl ?_
  exact lb [0,0] [] (ih1 (_,_,_,_) ⟨h,h6⟩)
 refine att 6 [] rfl ?_
 exact rtg [1,0] hF (aG.one rfl) rfl (by cases h; exact fun w1 hw=>⟨v1,D2,rfl,rfl,k1⟩)
theorem Bf (w0:af Ψ Φ []) (p0:aF) (ph0_0:RSl cc 1 Ψ pG0_0 pv0_0 p0.Levels) {r:aF} (h:nw N p0=some r) :
  Calls prog 56 [.agg [pv0_0].toArray].toArray w0.w (aR Φ w0.w [] (fun Φ' Fs v=>∃ (sr_0_0:Value) (Dr_0_0:List Nat),v = .agg [sr_0_0].toArray∧Fs=[ob sr_0_0,Dr_0_0]∧OSl aN 76 1 Φ' Dr_0_0 sr_0_0 r.Levels)):=by
 refine eN func56 rfl ntmps56 rfl w0 fun hF=>?_
 unfold nw at h
 refine sr ?_
 refine ln (jI (C:=#[pv0_0]) rfl rfl) rfl (fun b_1=>?_)
 refine ln (gD (C:=#[.slice none 0 0]) ru rfl) rfl (fun b_2=>?_)
 refine en<|sr ?_
 refine ln (gD (C:=#[.slice none 0 0]) ru rfl) rfl (fun b_3=>?_)
 refine arr 5 [0,64] rfl<|kab h rfl rfl rfl (fun b z q=>uL N b p0.Levels (ph0_0.y z) q) ?_
 rintro x1 h v1 Φ_1 F1 ⟨ap1,fr1,v2,D1,rfl,rfl,h1⟩
 refine lf ja rfl rfl rfl<|so1 0 HS rfl h1.one ?_
 refine en<|sr<|lq (aq vw rfl (fun w1 hw=>hw.rgO (i:=0) rfl 0 1 [v1] rfl) rfl) rfl<|soN 1 Aa rfl ⟨h1.one,trivial⟩ rfl ?_
 refine en ?_
 exact rtg [0,0] hF (aG.one (bw vw rfl (fun w1 hw=>hw.rgO (i:=1) rfl 0 1 [v1] rfl) rfl)) rfl (by cases h; exact fun w1 hw=>⟨v1,D1,rfl,rfl,h1⟩)
theorem zz (w0:af Ψ Φ []) (p0:(List aF)) (ph0:RSl ff 1 Ψ pG0 pv0 p0) {r:(List aF)} (h:oO N p0=some r) :
  Calls prog 28 [pv0].toArray w0.w (aR Φ w0.w [] (fun Φ' Fs v=>∃ (sr_0_0:Value) (Dr_0_0:List Nat),v=sr_0_0∧Fs=[ob sr_0_0,Dr_0_0]∧OSl bd 72 1 Φ' Dr_0_0 sr_0_0 r)):=by
 refine eN func28 rfl ntmps28 rfl w0 fun hF=>?_
 unfold oO at h
 refine atr 7 [] rfl<|lnr ph0 rfl ?_
 obtain ⟨x1,hx1,h⟩:=bs h
 refine le' (j5 (R:=bd) tf ru K9 rfl rfl rfl (fun _=>⟨.slice none 0 0,[],rfl,rfl,OSl.nil _ _ _ _⟩) rfl rfl (Int.le_refl _) hx1 (mY hx1)) rfl ?_
 rintro v1 Φ_1 D1 ⟨fr1,h1⟩
 refine wl0<|art 8 [] rfl ?_
 refine lin (σ:=Hp × (List aF) × List Nat × Int) (fun s=>[(0,pv0),(3,v1),(4,iV s.2.2.2)]) (fun s=>St w0 s.1 [] [s.2.2.1,ob v1]) (fun m s=>jm N p0 m s.2.1 s.2.2.2=some r∧(OSl bd 72 1 s.1 s.2.2.1 v1 s.2.1)) (Φ_1,x1,[],0) N ⟨h,h1⟩ (sx [0,0] []) (fun n1 ih1 s hm=>?_)
 obtain ⟨Φ_2,s1,D2,s2⟩:=s
 obtain ⟨h,k1⟩:=hm
 dsimp only at h k1 ⊢
 unfold jm at h
 refine atr 5 [] rfl<|lnr ph0 rfl<|la rfl<|en ?_
 refine ch h rfl ?_ ?_ <;> intro h
 ·refine atr 8 [] rfl ?_
  obtain ⟨x2,hx2,h⟩:=bs h
  obtain ⟨cs1,F1,-,g1,hb1,hs1,r1⟩:=ph0.el (a7 hx2).2.2
  obtain ⟨v2,G1,rfl,hq1,h2⟩:=r1
  obtain rfl:=hq1.symm
  refine lia ph0 hx2 rfl<|lhx 0 1 g1 rfl<|kab h rfl rfl rfl (fun b z q=>Bf N b x2 (h2.y z) q) ?_
  rintro x3 h v3 Φ_3 F2 ⟨ap1,fr2,v4,D3,rfl,rfl,h3⟩
  replace k1:=k1.fr fr2 (ap1.q 1 rfl) (ap1.q 0 rfl)
  obtain ⟨x4,hx4,h⟩:=bs h
  obtain ⟨cs2,F3,-,g2,hb2,hs2,r2⟩:=k1.elS (a7 hx4).2.2
  obtain ⟨v5,D4,rfl,rfl,h4⟩:=r2
  have h5:=h4.rslG aN.gives
  refine lio k1 hx4 rfl ?_
  have r3:bd Φ_3 ((ob v4++D3)) [v4] x3:=⟨v4,D3,rfl,rfl,h3⟩
  refine lu (rN (js:=[3]) (Rr:=[ob v4,D3,D2]) (vs:=[v4]) (x':=x3) bd.lasts Aa rfl rfl rfl rfl ⟨h3.one,trivial⟩ rfl k1 (ir hx4) r3 (bd.knows _ _ _ _ r3) (fun ap=>ap.q 2 rfl) (fun ap=>by simpa [bW] using (Dj.app (ap.q 0 rfl) (ap.q 1 rfl)))) rfl ?_
  rintro Φ_4 D5 ⟨⟨ap2,fr3⟩,sp1,h6⟩
  refine wlL [D5,ob v1] (smg [3,1,1] rfl (by simpa [List.append_assoc,bW] using sp1))<|art 7 [] rfl ?_
  exact lb [0,0] [] (ih1 (_,_,_,_) ⟨h,h6⟩)
 refine att 6 [] rfl ?_
 exact rtg [1,0] hF (aG.one rfl) rfl (by cases h; exact fun w1 hw=>⟨v1,D2,rfl,rfl,k1⟩)
theorem qW (w0:af Ψ Φ []) (p0:aJ) (ph0_0:RSl dp 1 Ψ pG0_0 pv0_0 p0.Alphas) (ph0_1:RSl ff 1 Ψ pG0_1 pv0_1 p0.Rules) {r:aJ} (h:lx N p0=some r) :
  Calls prog 9 [.agg [pv0_0,pv0_1].toArray].toArray w0.w (aR Φ w0.w [] (fun Φ' Fs v=>∃ (sr_0_0:Value) (Dr_0_0:List Nat) (sr_0_1:Value) (Dr_0_1:List Nat),v = .agg [sr_0_0,sr_0_1].toArray∧Fs=[ob sr_0_0,Dr_0_0,ob sr_0_1,Dr_0_1]∧OSl bv 69 1 Φ' Dr_0_0 sr_0_0 r.Alphas∧OSl bd 72 1 Φ' Dr_0_1 sr_0_1 r.Rules)):=by
 refine eN func9 rfl ntmps9 rfl w0 fun hF=>?_
 unfold lx at h
 refine sr<|lbx rfl fun b_1=>lnz pj rfl fun b_2=>en<|sr<|lnz pj rfl fun b_3=>arr 5 [0,64] rfl<|kab h rfl rfl rfl (fun b z q=>yz N b p0.Alphas (ph0_0.y z) q) ?_
 rintro x1 h v1 Φ_1 F1 ⟨ap1,fr1,v2,D1,rfl,rfl,h1⟩
 refine lf o8 rfl rfl rfl<|so1 0 HN rfl h1.one ?_
 refine arr 5 [1,64] rfl<|kab h rfl rfl rfl (fun b z q=>zz N b p0.Rules (ph0_1.y z) q) ?_
 rintro x2 h v3 Φ_2 F2 ⟨ap2,fr2,v4,D2,rfl,rfl,h2⟩
 replace h1:=h1.fr fr2 (ap2.q 0 rfl) (ap2.q 1 rfl)
 refine lf wx rfl rfl rfl<|so1 0 Fw rfl h2.one ?_
 refine arr 4 [2] rfl<|soN 1 rG rfl ⟨h1.one,h2.one,trivial⟩ rfl ?_
 refine en ?_
 exact rtg [2,2,0,0] hF (aG.one (bw zI rfl (fun w1 hw=>hw.rgO (i:=1) rfl 0 2 [v1,v3] rfl) rfl)) rfl (by cases h; exact fun w1 hw=>⟨v1,D1,v3,D2,rfl,rfl,h1,h2⟩)
theorem yt (w0:af Ψ Φ []) (p0:(List aP)) (ph0:RSl aD 3 Ψ pG0 pv0 p0) {r:(List aP)} (h:nS N p0=some r) :
  Calls prog 153 [pv0].toArray w0.w (aR Φ w0.w [] (fun Φ' Fs v=>∃ (sr_0_0:Value),v=sr_0_0∧Fs=[ob sr_0_0]∧OSl aD 167 3 Φ' [] sr_0_0 r)):=by
 refine eN func153 rfl ntmps153 rfl w0 fun hF=>?_
 unfold nS at h
 refine atr 7 [] rfl<|lnr ph0 rfl ?_
 obtain ⟨x1,hx1,h⟩:=bs h
 refine le' (j5 (R:=aD) dA iw Ia rfl rfl rfl (fun _=>⟨rfl,rfl⟩) rfl rfl (Int.le_refl _) hx1 (mY hx1)) rfl ?_
 rintro v1 Φ_1 D1 ⟨fr1,h1⟩
 refine art 8 [] rfl ?_
 refine lin (σ:=Hp × (List aP) × Int) (fun s=>[(0,pv0),(3,v1),(4,iV s.2.2)]) (fun s=>St w0 s.1 [] [ob v1]) (fun m s=>jc N p0 m s.2.1 s.2.2=some r∧(OSl aD 167 3 s.1 [] v1 s.2.1)) (Φ_1,x1,0) N ⟨h,h1⟩ (sx [0] []) (fun n1 ih1 s hm=>?_)
 obtain ⟨Φ_2,s1,s2⟩:=s
 obtain ⟨h,k1⟩:=hm
 dsimp only at h k1 ⊢
 unfold jc at h
 refine atr 5 [] rfl<|lnr ph0 rfl<|la rfl<|en ?_
 refine ch h rfl ?_ ?_ <;> intro h
 ·refine atr 8 [] rfl ?_
  obtain ⟨x2,hx2,h⟩:=bs h
  obtain ⟨cs1,F1,-,g1,hb1,hs1,r1⟩:=ph0.el (a7 hx2).2.2
  obtain ⟨rfl,-⟩:=r1
  refine lia ph0 hx2 rfl<|lhx 0 3 g1 rfl<|qc h (tn N · x2 ·) rfl rfl rfl fun x3 h=>?_
  obtain ⟨x4,hx4,h⟩:=bs h
  obtain ⟨cs2,F2,-,g2,hb2,hs2,r2⟩:=k1.elS (a7 hx4).2.2
  obtain ⟨rfl,-⟩:=r2
  refine lio k1 hx4 rfl<|lu (rD (js:=[0]) (Rr:=[]) (vs:=[iV x3.K,iV x3.N,.string x3.S]) (x':=x3) aD.lasts aD.flat oZ rfl rfl rfl rfl ⟨rfl,rfl,rfl,trivial⟩ rfl k1 (ir hx4) ⟨rfl,rfl⟩) rfl ?_
  rintro Φ_3 D2 ⟨⟨ap1,fr2⟩,h2⟩
  refine art 7 [] rfl ?_
  exact lb [0] [] (ih1 (_,_,_) ⟨h,h2⟩)
 refine att 6 [] rfl ?_
 exact rtg [0] hF (aG.one rfl) rfl (by cases h; exact fun w1 hw=>⟨v1,rfl,rfl,k1⟩)
theorem z6 (w0:af Ψ Φ []) (p0:av) (ph0_0:RSl aD 3 Ψ pG0_0 pv0_0 p0.Fields) {r:av} (h:oe N p0=some r) :
  Calls prog 101 [.agg [.string p0.Kind,pv0_0].toArray].toArray w0.w (aR Φ w0.w [] (fun Φ' Fs v=>∃ (sr_0_0:Value),v = .agg [.string r.Kind,sr_0_0].toArray∧Fs=[ob sr_0_0]∧OSl aD 167 3 Φ' [] sr_0_0 r.Fields)):=by
 refine eN func101 rfl ntmps101 rfl w0 fun hF=>?_
 unfold oe at h
 refine sr<|lbx rfl fun b_1=>lnz jD rfl fun b_2=>en<|sr<|lnz jD rfl fun b_3=>arr 6 [0,64,0] rfl<|so1 0 AT rfl rfl ?_
 refine arr 5 [1,64] rfl<|kab h rfl rfl rfl (fun b z q=>yt N b p0.Fields (ph0_0.y z) q) ?_
 rintro x1 h v1 Φ_1 F1 ⟨ap1,fr1,v2,rfl,rfl,h1⟩
 refine lf A7 rfl rfl rfl<|so1 0 AU rfl h1.one ?_
 refine arr 4 [2] rfl<|soN 1 ky rfl ⟨rfl,h1.one,trivial⟩ rfl ?_
 refine en ?_
 exact rtg [0] hF (aG.one (bw mV rfl (fun w1 hw=>hw.rgO (i:=1) rfl 0 2 [.string p0.Kind,v1] rfl) rfl)) rfl (by cases h; exact fun w1 hw=>⟨v1,rfl,rfl,h1⟩)
theorem xT (w0:af Ψ Φ []) (p0:an) (ph0_0:RSl aD 3 Ψ pG0_0 pv0_0 p0.F.Fields) {r:an} (h:lA N p0=some r) :
  Calls prog 57 [.agg [iV p0.Id,.string p0.F.Kind,pv0_0].toArray].toArray w0.w (aR Φ w0.w [] (fun Φ' Fs v=>∃ (sr_0_0:Value),v = .agg [iV r.Id,.string r.F.Kind,sr_0_0].toArray∧Fs=[ob sr_0_0]∧OSl aD 167 3 Φ' [] sr_0_0 r.F.Fields)):=by
 refine eN func57 rfl ntmps57 rfl w0 fun hF=>?_
 unfold lA at h
 refine sr<|lbx rfl fun b_1=>lnz qU rfl fun b_2=>en<|sr<|lnz qU rfl fun b_3=>arr 6 [0,64,0] rfl<|so1 0 u6 rfl rfl ?_
 refine arr 5 [1,66] rfl<|kab h rfl rfl rfl (fun b z q=>z6 N b p0.F (ph0_0.y z) q) ?_
 rintro x1 h v1 Φ_1 F1 ⟨ap1,fr1,v2,rfl,rfl,h1⟩
 refine lf tU rfl rfl rfl<|soN 0 ky rfl ⟨rfl,h1.one,trivial⟩ rfl ?_
 refine arr 4 [3] rfl<|soN 1 rF rfl ⟨rfl,rfl,h1.one,trivial⟩ rfl ?_
 refine en ?_
 exact rtg [0] hF (aG.one (bw Dl rfl (fun w1 hw=>hw.rgO (i:=1) rfl 0 3 [iV p0.Id,.string x1.Kind,v2] rfl) rfl)) rfl (by cases h; exact fun w1 hw=>⟨v2,rfl,rfl,h1⟩)
theorem vJ (w0:af Ψ Φ []) (p0:(List an)) (ph0:RSl bn 3 Ψ pG0 pv0 p0) {r:(List an)} (h:mi N p0=some r) :
  Calls prog 29 [pv0].toArray w0.w (aR Φ w0.w [] (fun Φ' Fs v=>∃ (sr_0_0:Value) (Dr_0_0:List Nat),v=sr_0_0∧Fs=[ob sr_0_0,Dr_0_0]∧OSl dF 117 3 Φ' Dr_0_0 sr_0_0 r)):=by
 refine eN func29 rfl ntmps29 rfl w0 fun hF=>?_
 unfold mi at h
 refine atr 7 [] rfl<|lnr ph0 rfl ?_
 obtain ⟨x1,hx1,h⟩:=bs h
 refine le' (j5 (R:=dF) rP qU Jt rfl rfl rfl (fun _=>⟨.slice none 0 0,rfl,rfl,OSl.nil _ _ _ _⟩) rfl rfl (Int.le_refl _) hx1 (mY hx1)) rfl ?_
 rintro v1 Φ_1 D1 ⟨fr1,h1⟩
 refine wl0<|art 8 [] rfl ?_
 refine lin (σ:=Hp × (List an) × List Nat × Int) (fun s=>[(0,pv0),(3,v1),(4,iV s.2.2.2)]) (fun s=>St w0 s.1 [] [s.2.2.1,ob v1]) (fun m s=>iH N p0 m s.2.1 s.2.2.2=some r∧(OSl dF 117 3 s.1 s.2.2.1 v1 s.2.1)) (Φ_1,x1,[],0) N ⟨h,h1⟩ (sx [0,0] []) (fun n1 ih1 s hm=>?_)
 obtain ⟨Φ_2,s1,D2,s2⟩:=s
 obtain ⟨h,k1⟩:=hm
 dsimp only at h k1 ⊢
 unfold iH at h
 refine atr 5 [] rfl<|lnr ph0 rfl<|la rfl<|en ?_
 refine ch h rfl ?_ ?_ <;> intro h
 ·refine atr 8 [] rfl ?_
  obtain ⟨x2,hx2,h⟩:=bs h
  obtain ⟨cs1,F1,-,g1,hb1,hs1,r1⟩:=ph0.el (a7 hx2).2.2
  obtain ⟨v2,G1,rfl,hq1,h2⟩:=r1
  obtain rfl:=hq1.symm
  refine lia ph0 hx2 rfl<|lhx 0 3 g1 rfl<|kab h rfl rfl rfl (fun b z q=>xT N b x2 (h2.y z) q) ?_
  rintro x3 h v3 Φ_3 F2 ⟨ap1,fr2,v4,rfl,rfl,h3⟩
  replace k1:=k1.fr fr2 (ap1.q 1 rfl) (ap1.q 0 rfl)
  obtain ⟨x4,hx4,h⟩:=bs h
  obtain ⟨cs2,F3,-,g2,hb2,hs2,r2⟩:=k1.elS (a7 hx4).2.2
  obtain ⟨v5,rfl,rfl,h4⟩:=r2
  have h5:=h4.rsl
  refine lio k1 hx4 rfl ?_
  have r3:dF Φ_3 ((ob v4++[])) [iV x3.Id,.string x3.F.Kind,v4] x3:=⟨v4,rfl,rfl,h3⟩
  refine lu (rN (js:=[2]) (Rr:=[ob v4,D2]) (vs:=[iV x3.Id,.string x3.F.Kind,v4]) (x':=x3) dF.lasts rF rfl rfl rfl rfl ⟨rfl,rfl,h3.one,trivial⟩ rfl k1 (ir hx4) r3 (dF.knows _ _ _ _ r3) (fun ap=>ap.q 1 rfl) (fun ap=>by simpa [bW] using (ap.q 0 rfl))) rfl ?_
  rintro Φ_4 D3 ⟨⟨ap2,fr3⟩,sp1,h6⟩
  refine wlL [D3,ob v1] (smg [2,1] rfl (by simpa [List.append_assoc,bW] using sp1))<|art 7 [] rfl ?_
  exact lb [0,0] [] (ih1 (_,_,_,_) ⟨h,h6⟩)
 refine att 6 [] rfl ?_
 exact rtg [1,0] hF (aG.one rfl) rfl (by cases h; exact fun w1 hw=>⟨v1,D2,rfl,rfl,k1⟩)
theorem oI (w0:af Ψ Φ []) (p0:ae) (ph0_0:RSl bn 3 Ψ pG0_0 pv0_0 p0.Items) {r:ae} (h:iR N p0=some r) :
  Calls prog 10 [.agg [pv0_0,iV p0.Next].toArray].toArray w0.w (aR Φ w0.w [] (fun Φ' Fs v=>∃ (sr_0_0:Value) (Dr_0_0:List Nat),v = .agg [sr_0_0,iV r.Next].toArray∧Fs=[ob sr_0_0,Dr_0_0]∧OSl dF 117 3 Φ' Dr_0_0 sr_0_0 r.Items)):=by
 refine eN func10 rfl ntmps10 rfl w0 fun hF=>?_
 unfold iR at h
 refine sr<|lbx rfl fun b_1=>lnz C7 rfl fun b_2=>en<|sr<|lnz C7 rfl fun b_3=>arr 5 [0,64] rfl<|kab h rfl rfl rfl (fun b z q=>vJ N b p0.Items (ph0_0.y z) q) ?_
 rintro x1 h v1 Φ_1 F1 ⟨ap1,fr1,v2,D1,rfl,rfl,h1⟩
 refine lf Fp rfl rfl rfl<|so1 0 KP rfl h1.one ?_
 refine arr 6 [1,64,1] rfl<|so1 0 u6 rfl rfl ?_
 refine arr 4 [2] rfl<|soN 1 HW rfl ⟨h1.one,rfl,trivial⟩ rfl ?_
 refine en ?_
 exact rtg [0,0] hF (aG.one (bw tp rfl (fun w1 hw=>hw.rgO (i:=1) rfl 0 2 [v1,iV p0.Next] rfl) rfl)) rfl (by cases h; exact fun w1 hw=>⟨v1,D1,rfl,rfl,h1⟩)
theorem rQ  (w0:af Ψ Φ []) (p0:Int)  {r:Bool} (h:iM N p0=some r) :
  CB w0 prog 102 [.int .u8 p0] (.bool r):=by
 refine eN func102 rfl ntmps102 rfl w0 fun hF=>?_
 unfold iM at h
 refine atr 9 [] rfl ?_
 obtain ⟨b1,hb_1,h⟩:=bs h
 refine WL.cutN 3 [(8,.bool b1),(2,.bool false)] ?_ (fun K=>?_)
 rotate_left
 ·refine sp 5 hb_1 rfl (fun hb_1=>?_) fun hb_1=>?_
  ·refine arr 3 [] rfl ?_
   cases hb_1
   exact ku K
  ·refine arr 3 [] rfl ?_
   cases hb_1
   exact ku K
 refine la rfl<|en ?_
 exact rt hF h
theorem vt  (w0:af Ψ Φ []) (p0:Int)  {r:Bool} (h:pt N p0=some r) :
  CB w0 prog 192 [.int .u8 p0] (.bool r):=by
 refine eN func192 rfl ntmps192 rfl w0 fun hF=>?_
 unfold pt at h
 refine atr 9 [] rfl ?_
 obtain ⟨b1,hb_1,h⟩:=bs h
 refine WL.cutN 3 [(8,.bool b1),(2,.bool false)] ?_ (fun K=>?_)
 rotate_left
 ·refine sp 5 hb_1 rfl (fun hb_1=>?_) fun hb_1=>?_
  ·refine arr 3 [] rfl ?_
   cases hb_1
   exact ku K
  ·refine arr 3 [] rfl ?_
   cases hb_1
   exact ku K
 refine la rfl<|en ?_
 exact rt hF h
theorem po  (w0:af Ψ Φ []) (p0:Int)  {r:Bool} (h:fY N p0=some r) :
  CB w0 prog 154 [.int .u8 p0] (.bool r):=by
 refine eN func154 rfl ntmps154 rfl w0 fun hF=>?_
 unfold fY at h
 refine atr 7 [] rfl<|qc h (rQ N · p0 ·) rfl rfl rfl fun x1 h=>la rfl ?_
 obtain ⟨b1,hb_1,h⟩:=bs h
 refine WL.cutN 3 [(8,.bool b1),(0,.int .u8 p0),(2,.bool false)] ?_ (fun K=>?_)
 rotate_left
 ·refine sp 5 hb_1 rfl (fun hb_1=>?_) fun hb_1=>?_
  ·refine arr 3 [] rfl ?_
   cases hb_1
   exact ku K
  ·refine ly rfl rfl<|la rfl<|ly rfl rfl<|qc hb_1 (vt N · p0 ·) rfl rfl rfl fun x2 hb_1=>la rfl ?_
   cases hb_1
   exact ku K
 refine la rfl ?_
 obtain ⟨b2,hb_2,h⟩:=bs h
 refine WL.cutN 3 [(12,.bool b2),(2,.bool false)] ?_ (fun K=>?_)
 rotate_left
 ·refine sp 9 hb_2 rfl (fun hb_2=>?_) fun hb_2=>?_
  ·refine arr 3 [] rfl ?_
   cases hb_2
   exact ku K
  ·refine arr 3 [] rfl ?_
   cases hb_2
   exact ku K
 refine la rfl<|en ?_
 exact rt hF h
theorem sN  (w0:af Ψ Φ []) (p0:ByteArray) (p1:Int)  {r:Bool} (h:kR N p0 p1=some r) :
  CB w0 prog 103 [.string p0,iV p1] (.bool r):=by
 refine eN func103 rfl ntmps103 rfl w0 fun hF=>?_
 unfold kR at h
 refine atr 8 [] rfl<|lq (fN eW rfl rfl) rfl<|art 3 [] rfl ?_
 refine ch h rfl ?_ ?_ <;> intro h
 ·refine att 4 [] rfl ?_
  exact rt hF h
 refine att 7 [] rfl ?_
 refine lin (σ:=Int) (fun s=>[(0,.string p0),(5,iV s)]) (fun s=>St w0 Φ [] []) (fun m s=>dU N p0 m s=some r) (0) N h (sx [] []) (fun n1 ih1 s hm=>?_)
 revert hm; revert s; intro s1 hm
 have h:dU N p0 (n1+1) s1=some r:=hm
 show WT _ _ [(0,.string p0),(5,iV s1)] (St w0 Φ [] [])
 unfold dU at h
 refine atr 5 [] rfl<|lq (fN eW rfl rfl) rfl<|la rfl<|en ?_
 refine ch h rfl ?_ ?_ <;> intro h
 ·refine atr 7 [] rfl ?_
  obtain ⟨y1,hy1,h⟩:=bs h
  refine lq (jb eW rfl rfl hy1) rfl<|qc h (po N · (y1.toNat:Int) ·) rfl rfl rfl fun x1 h=>la rfl<|en ?_
  refine ch h rfl ?_ ?_ <;> intro h
  ·refine att 4 [] rfl ?_
   exact rt hF h
  refine att 7 [] rfl ?_
  exact lb [] [] (ih1 _ h)
 refine att 5 [] rfl ?_
 exact rt hF h
theorem i7  (w0:af Ψ Φ []) (p0:ByteArray)  {r:Bool} (h:eZ N p0=some r) :
  CB w0 prog 58 [.string p0] (.bool r):=by
 refine eN func58 rfl ntmps58 rfl w0 fun hF=>?_
 unfold eZ at h
 refine atr 7 [] rfl<|lq (fN eW rfl rfl) rfl<|arr 2 [] rfl ?_
 obtain ⟨b1,hb_1,h⟩:=bs h
 refine WL.cutN 4 [(10,.bool b1),(0,.string p0),(2,.bool false)] ?_ (fun K=>?_)
 rotate_left
 ·refine sp 6 hb_1 rfl (fun hb_1=>?_) fun hb_1=>?_
  ·refine ly rfl rfl<|la rfl<|ly rfl rfl ?_
   obtain ⟨y1,hy1,hb_1⟩:=bs hb_1
   refine lq (jb eW rfl rfl hy1) rfl<|ly rfl rfl<|qc hb_1 (rQ N · (y1.toNat:Int) ·) rfl rfl rfl fun x1 hb_1=>la rfl ?_
   cases hb_1
   exact ku K
  ·refine arr 4 [] rfl ?_
   cases hb_1
   exact ku K
 refine la rfl ?_
 obtain ⟨b2,hb_2,h⟩:=bs h
 refine WL.cutN 3 [(14,.bool b2),(2,.bool false)] ?_ (fun K=>?_)
 rotate_left
 ·refine sp 11 hb_2 rfl (fun hb_2=>?_) fun hb_2=>?_
  ·refine ly rfl rfl<|la rfl<|ly rfl rfl<|qc hb_2 (sN N · p0 12 ·) rfl rfl rfl fun x2 hb_2=>la rfl ?_
   cases hb_2
   exact ku K
  ·refine arr 3 [] rfl ?_
   cases hb_2
   exact ku K
 refine la rfl<|en ?_
 exact rt hF h
theorem cq  (w0:af Ψ Φ []) (p0:Int) (p1:Int) (p2:Int)  {r:Bool} (h:cj N p0 p1 p2=some r) :
  CB w0 prog 59 [iV p0,iV p1,iV p2] (.bool r):=by
 refine eN func59 rfl ntmps59 rfl w0 fun hF=>?_
 unfold cj at h
 refine atr 10 [] rfl ?_
 obtain ⟨b1,hb_1,h⟩:=bs h
 refine WL.cutN 4 [(14,.bool b1),(6,.bool false)] ?_ (fun K=>?_)
 rotate_left
 ·refine sp 10 hb_1 rfl (fun hb_1=>?_) fun hb_1=>?_
  ·refine arr 4 [] rfl ?_
   cases hb_1
   exact ku K
  ·refine arr 4 [] rfl ?_
   cases hb_1
   exact ku K
 refine la rfl<|en ?_
 exact rt hF h
theorem mP (w0:af Ψ Φ []) (p0:ac) (ph0_0:RSl bt 3 Ψ pG0_0 pv0_0 p0.Pats) (ph0_1:RSl bl 11 Ψ pG0_1 pv0_1 p0.Conds) (ph0_2:RSl cX 5 Ψ pG0_2 pv0_2 p0.Acts) {r:Int} (h:gJ N p0=some r) :
  CB w0 prog 107 [.agg [.string p0.Name,iV p0.Sal,pv0_0,pv0_1,pv0_2].toArray] (iV r):=by
 refine eN func107 rfl ntmps107 rfl w0 fun hF=>?_
 unfold gJ at h
 refine sr<|lbx rfl fun b_1=>arr 11 [2,0] rfl<|lnr ph0_0 rfl<|art 3 [] rfl ?_
 refine lin (σ:=Int × Int) (fun s=>[(3,iV s.1),(7,pv0_0),(8,iV (p0.Pats.length:Int)),(9,iV s.2)]) (fun s=>St w0 Φ [] []) (fun m s=>cQ N p0 m s.1 s.2=some r) (0,0) N h (sx [] []) (fun n1 ih1 s hm=>?_)
 obtain ⟨s1,s2⟩:=s
 have h:cQ N p0 (n1+1) s1 s2=some r:=hm
 show WT _ _ [(3,iV s1),(7,pv0_0),(8,iV (p0.Pats.length:Int)),(9,iV s2)] (St w0 Φ [] [])
 unfold cQ at h
 refine att 5 [] rfl ?_
 refine ch h rfl ?_ ?_ <;> intro h
 ·refine atr 5 [] rfl ?_
  obtain ⟨x1,hx1,h⟩:=bs h
  obtain ⟨cs1,F1,-,g1,hb1,hs1,r1⟩:=ph0_0.el (a7 hx1).2.2
  obtain ⟨v1,G1,rfl,hq1,h1⟩:=r1
  obtain rfl:=hq1.symm
  refine lia ph0_0 hx1 rfl<|lhx 0 3 g1 rfl<|lnz mN rfl fun b_2=>soN 0 pX rfl ⟨rfl,h1.one,rfl,trivial⟩ rfl ?_
  refine art 7 [2,0] rfl ?_
  refine ch h rfl ?_ ?_ <;> intro h
  ·refine att 10 [] rfl ?_
   exact lb [] [] (ih1 (_,_) h)
  refine att 6 [] rfl ?_
  exact lb [] [] (ih1 (_,_) h)
 refine att 6 [] rfl ?_
 exact rt hF h
theorem tQ  (w0:af Ψ Φ []) (p0:aP)  {r:Bool} (h:jL N p0=some r) :
  CB w0 prog 113 [.agg [iV p0.K,iV p0.N,.string p0.S].toArray] (.bool r):=by
 refine eN func113 rfl ntmps113 rfl w0 fun hF=>?_
 unfold jL at h
 refine sr<|lbx rfl fun b_1=>art 14 [0,0] rfl ?_
 refine ch h rfl ?_ ?_ <;> intro h
 ·refine atr 4 [1,0] rfl<|qc h (cq N · p0.N (-1000000000) 1000000000 ·) rfl rfl rfl fun x1 h=>la rfl ?_
  obtain ⟨b1,hb_1,h⟩:=bs h
  refine WL.cutN 4 [(14,.bool b1),(2,.bool false)] ?_ (fun K=>?_)
  rotate_left
  ·refine sp 10 hb_1 rfl (fun hb_1=>?_) fun hb_1=>?_
   ·refine arr 4 [2,0] rfl ?_
    cases hb_1
    exact ku K
   ·refine arr 4 [] rfl ?_
    cases hb_1
    exact ku K
  refine la rfl<|en ?_
  exact rt hF h
 refine att 5 [] rfl ?_
 refine ch h rfl ?_ ?_ <;> intro h
 ·refine atr 6 [1,0] rfl ?_
  obtain ⟨b2,hb_2,h⟩:=bs h
  refine WL.cutN 4 [(24,.bool b2),(2,.bool false)] ?_ (fun K=>?_)
  rotate_left
  ·refine sp 20 hb_2 rfl (fun hb_2=>?_) fun hb_2=>?_
   ·refine arr 2 [2,0] rfl<|ly rfl rfl<|qc hb_2 (sN N · p0.S 20 ·) rfl rfl rfl fun x2 hb_2=>la rfl ?_
    cases hb_2
    exact ku K
   ·refine arr 4 [] rfl ?_
    cases hb_2
    exact ku K
  refine la rfl<|en ?_
  exact rt hF h
 refine att 6 [] rfl ?_
 exact rt hF h
theorem rV  (w0:af Ψ Φ []) (p0:Int)  {r:Bool} (h:jJ N p0=some r) :
  CB w0 prog 236 [.int .u8 p0] (.bool r):=by
 refine eN func236 rfl ntmps236 rfl w0 fun hF=>?_
 unfold jJ at h
 refine atr 9 [] rfl ?_
 obtain ⟨b1,hb_1,h⟩:=bs h
 refine WL.cutN 3 [(8,.bool b1),(2,.bool false)] ?_ (fun K=>?_)
 rotate_left
 ·refine sp 5 hb_1 rfl (fun hb_1=>?_) fun hb_1=>?_
  ·refine arr 3 [] rfl ?_
   cases hb_1
   exact ku K
  ·refine arr 3 [] rfl ?_
   cases hb_1
   exact ku K
 refine la rfl<|en ?_
 exact rt hF h
theorem AO  (w0:af Ψ Φ []) (p0:ByteArray)  {r:Bool} (h:pZ N p0=some r) :
  CB w0 prog 224 [.string p0] (.bool r):=by
 refine eN func224 rfl ntmps224 rfl w0 fun hF=>?_
 unfold pZ at h
 refine atr 8 [] rfl<|lq (fN eW rfl rfl) rfl<|arr 2 [] rfl ?_
 obtain ⟨b1,hb_1,h⟩:=bs h
 refine WL.cutN 4 [(11,.bool b1),(0,.string p0)] ?_ (fun K=>?_)
 rotate_left
 ·refine sp 7 hb_1 rfl (fun hb_1=>?_) fun hb_1=>?_
  ·refine arr 4 [] rfl ?_
   cases hb_1
   exact ku K
  ·refine ly rfl rfl<|la rfl<|ly rfl rfl<|lq (fN eW rfl rfl) rfl<|arr 2 [] rfl ?_
   cases hb_1
   exact ku K
 refine la rfl ?_
 obtain ⟨b2,hb_2,h⟩:=bs h
 refine WL.cutN 5 [(17,.bool b2),(0,.string p0)] ?_ (fun K=>?_)
 rotate_left
 ·refine sp 12 hb_2 rfl (fun hb_2=>?_) fun hb_2=>?_
  ·refine arr 5 [] rfl ?_
   cases hb_2
   exact ku K
  ·refine ly rfl rfl<|la rfl<|ly rfl rfl ?_
   obtain ⟨y1,hy1,hb_2⟩:=bs hb_2
   refine lq (jb eW rfl rfl hy1) rfl<|ly rfl rfl<|qc hb_2 (rV N · (y1.toNat:Int) ·) rfl rfl rfl fun x1 hb_2=>arr 2 [] rfl ?_
   cases hb_2
   exact ku K
 refine en ?_
 refine ch h rfl ?_ ?_ <;> intro h
 ·refine att 4 [] rfl ?_
  exact rt hF h
 refine att 7 [] rfl ?_
 refine lin (σ:=Int) (fun s=>[(0,.string p0),(3,iV s)]) (fun s=>St w0 Φ [] []) (fun m s=>fA N p0 m s=some r) (0) N h (sx [] []) (fun n1 ih1 s hm=>?_)
 revert hm; revert s; intro s1 hm
 have h:fA N p0 (n1+1) s1=some r:=hm
 show WT _ _ [(0,.string p0),(3,iV s1)] (St w0 Φ [] [])
 unfold fA at h
 refine atr 5 [] rfl<|lq (fN eW rfl rfl) rfl<|la rfl<|en ?_
 refine ch h rfl ?_ ?_ <;> intro h
 ·refine atr 7 [] rfl ?_
  obtain ⟨y2,hy2,h⟩:=bs h
  refine lq (jb eW rfl rfl hy2) rfl<|qc h (po N · (y2.toNat:Int) ·) rfl rfl rfl fun x2 h=>arr 2 [] rfl ?_
  obtain ⟨b3,hb_3,h⟩:=bs h
  refine WL.cutN 6 [(35,.bool b3),(0,.string p0),(3,iV s1)] ?_ (fun K=>?_)
  rotate_left
  ·refine sp 29 hb_3 rfl (fun hb_3=>?_) fun hb_3=>?_
   ·refine arr 2 [] rfl<|ly rfl rfl ?_
    obtain ⟨y3,hy3,hb_3⟩:=bs hb_3
    refine lq (jb eW rfl rfl hy3) rfl<|ly rfl rfl<|qc hb_3 (rV N · (y3.toNat:Int) ·) rfl rfl rfl fun x3 hb_3=>arr 2 [] rfl ?_
    cases hb_3
    exact ku K
   ·refine arr 6 [] rfl ?_
    cases hb_3
    exact ku K
  refine en ?_
  refine ch h rfl ?_ ?_ <;> intro h
  ·refine att 4 [] rfl ?_
   exact rt hF h
  refine att 7 [] rfl ?_
  exact lb [] [] (ih1 _ h)
 refine att 5 [] rfl ?_
 exact rt hF h
end Go.Proofs.YtiljnppocjgkkaaGreat
