/- Printed by a program of ours: each Go function computes its Lean function. -/
import Derived.Test.YtkdffjpgnhobhaaGreatProg
import Derived.Test.YtkdffjpgnhobhaaGreatWExactDropItemWalk6
namespace Go.Proofs.YtkdffjpgnhobhaaGreat
open Eng Tryz
open Go.RowKit (Below)
set_option linter.unusedVariables false
set_option linter.unusedSimpArgs false

set_option maxRecDepth 100000
set_option maxHeartbeats 1000000
variable {Ψ Φ:Hp} {pv0_0 pv1_0 pv1_1 pv2_0 pv2_1 pv3_0 pv0 pv1 pv0_1 pv0_2 pv1_2:Value} {pG0_0 pG1_0 pG1_1 pG2_0 pG2_1 pG3_0 pG0 pG1 pG0_1 pG0_2 pG1_2 pD0 pD0_0:List Nat} (N:Nat)
theorem fj (w0:ab Ψ Φ []) (p0:bl) (p1:bd) (p2:aG) (p3:ah) (p4:Int) (ph0_0:RSl bU 5 Ψ pG0_0 pv0_0 p0.Rules) (ph1_0:RSl be 4 Ψ pG1_0 pv1_0 p1.Alphas) (ph1_1:RSl bv 2 Ψ pG1_1 pv1_1 p1.Chains) (ph2_0:RSl dP 1 Ψ pG2_0 pv2_0 p2.Alphas) (ph2_1:RSl fx 1 Ψ pG2_1 pv2_1 p2.Rules) (ph3_0:RSl bN 3 Ψ pG3_0 pv3_0 p3.Items) {r:aG} (h:jM N p0 p1 p2 p3 p4=some r) :
  Calls prog 13 [.agg [.string p0.Name,pv0_0].toArray,.agg [pv1_0,pv1_1].toArray,.agg [pv2_0,pv2_1].toArray,.agg [pv3_0,iV p3.Next].toArray,iV p4].toArray w0.w (aL Φ w0.w [] (fun Φ' Fs v=>∃ (sr_0_0:Value) (Dr_0_0:List Nat) (sr_0_1:Value) (Dr_0_1:List Nat),v = .agg [sr_0_0,sr_0_1].toArray∧Fs=[ob sr_0_0,Dr_0_0,ob sr_0_1,Dr_0_1]∧OSl aF 123 1 Φ' Dr_0_0 sr_0_0 r.Alphas∧OSl aM 126 1 Φ' Dr_0_1 sr_0_1 r.Rules)):=by
 refine eN func13 rfl ntmps13 rfl w0 fun hF=>?_
 unfold jM at h
 refine sr<|lbx rfl fun b_1=>lbx rfl fun b_2=>lbx rfl fun b_3=>lbx rfl fun b_4=>lnz iG rfl fun b_5=>arr 4 [66] rfl<|kab h rfl rfl rfl (fun b z q=>Ae N b p2 (ph2_0.y z) (ph2_1.y z) q) ?_
 rintro x1 h v1 Φ_1 F1 ⟨ap1,fr1,v2,D1,v3,D2,rfl,rfl,h1,h2⟩
 refine lnz iG rfl fun b_6=>soN 0 kg rfl ⟨h1.one,h2.one,trivial⟩ rfl ?_
 refine arr 9 [162,130,98,66] rfl<|qd h (AF N · p0 p1 p2 p3 p4 ph0_0 ph1_0 ph1_1 ph2_0 ph2_1 ph3_0 ·) rfl rfl rfl fun x2 h=>en ?_
 refine cut (σ:=Hp × (List aP) × List Nat × (List aC) × List Nat) (fun s=>[(10,pQ b_5),(11,pQ b_6)]) (fun s=>St w0 s.1 [(b_6,.cells #[v2,v3] 43 (0,0)),(b_5,.cells #[.slice none 0 0,.slice none 0 0] 43 (0,0))] [ob v2,s.2.2.1,ob v3,s.2.2.2.2]) (fun s=>gt N s.2.1 s.2.2.2.1=some r∧(OSl aF 123 1 s.1 s.2.2.1 v2 s.2.1)∧(OSl aM 126 1 s.1 s.2.2.2.2 v3 s.2.2.2.1)) (fun s hm=>?_) (fun K=>?_)
 ·clear h
  obtain ⟨Φ_2,s1,D3,s2,D4⟩:=s
  obtain ⟨h,k1,k2⟩:=hm
  dsimp only at h k1 k2 ⊢
  unfold gt at h
  refine atr 3 [2] rfl<|soN 1 kg rfl ⟨k1.one,k2.one,trivial⟩ rfl ?_
  refine en ?_
  exact rtg [0,0,0,0] hF (ao.one (bB Cb rfl (fun w1 hw=>hw.rgO (i:=1) rfl 0 2 [v2,v3] rfl) rfl)) rfl (by cases h; exact fun w1 hw=>⟨v2,D3,v3,D4,rfl,rfl,k1,k2⟩)
 refine ch h rfl ?_ ?_ <;> intro h
 ·refine atr 6 [162,130,2,66] rfl<|kcb [0,0,0,0] h rfl rfl rfl rfl (fun b ap z q=>xh N b p0 p1 x1 p3 p4 (ph0_0.y z) (ph1_0.y z) (ph1_1.y z) h1 h2 (ph3_0.y z) q) ?_
  rintro x3 h v4 Φ_3 F2 ⟨ap2,fr2,D5,D6,rfl,rfl,h3,h4⟩
  refine en ?_
  exact wo [0,0,0,0] [0,0] (K (_,_,_,_,_) ⟨h,h3,h4⟩)
 refine WT.skip ?_
 exact wo [0,0,0,0] [0,0] (K (_,_,_,_,_) ⟨h,h1,h2⟩)
theorem iU (w0:ab Ψ Φ []) (p0:(List Int)) (p1:(List Int)) (ph0:RSl (RI .i64) 1 Ψ pG0 pv0 p0) (ph1:RSl (RI .i64) 1 Ψ pG1 pv1 p1) {r:Bool} (h:gP N p0 p1=some r) :
  CB w0 prog 142 [pv0,pv1] (.bool r):=by
 refine eN func142 rfl ntmps142 rfl w0 fun hF=>?_
 unfold gP at h
 refine atr 8 [] rfl<|lnr ph0 rfl<|la rfl<|lnr ph1 rfl<|la rfl<|en ?_
 refine ch h rfl ?_ ?_ <;> intro h
 ·refine att 4 [] rfl ?_
  exact rt hF h
 refine att 7 [] rfl ?_
 refine lin (σ:=Int) (fun s=>[(0,pv0),(1,pv1),(5,iV s)]) (fun s=>St w0 Φ [] []) (fun m s=>iP N p0 p1 m s=some r) (0) N h (sx [] []) (fun n1 ih1 s hm=>?_)
 revert hm; revert s; intro s1 hm
 have h:iP N p0 p1 (n1+1) s1=some r:=hm
 show WT _ _ [(0,pv0),(1,pv1),(5,iV s1)] (St w0 Φ [] [])
 unfold iP at h
 refine atr 5 [] rfl<|lnr ph0 rfl<|la rfl<|en ?_
 refine ch h rfl ?_ ?_ <;> intro h
 ·refine att 4 [] rfl<|WT.draw d7 (by kernel_rfl) (fun _ h=>h.drew)<|aqq 2 [] rfl ?_
  obtain ⟨x1,hx1,h⟩:=bs h
  obtain ⟨cs1,F1,-,g1,hb1,hs1,r1⟩:=ph0.el (a7 hx1).2.2
  obtain ⟨rfl,-⟩:=r1
  refine qq (aa bg rfl rfl ph0 hx1) rfl<|qq (bk xI rfl (fun w1 hw=>(g1.of_eq 0 1 rfl rfl:rg _ _ _ [iV x1]).rangeAt hw.in0)) rfl<|aqq 2 [] rfl ?_
  obtain ⟨x2,hx2,h⟩:=bs h
  obtain ⟨cs2,F2,-,g2,hb2,hs2,r2⟩:=ph1.el (a7 hx2).2.2
  obtain ⟨rfl,-⟩:=r2
  refine qq (aa bg rfl rfl ph1 hx2) rfl<|qq (bk xI rfl (fun w1 hw=>(g2.of_eq 0 1 rfl rfl:rg _ _ _ [iV x2]).rangeAt hw.in0)) rfl<|aqt 2 [] rfl ?_
  refine ch h rfl ?_ ?_ <;> intro h
  ·refine att 4 [] rfl ?_
   exact rt hF h
  refine att 7 [] rfl ?_
  exact lb [] [] (ih1 _ h)
 refine att 5 [] rfl ?_
 exact rt hF h
theorem E7 (w0:ab Ψ Φ []) (p0:aP) (p1:aP) (ph0_0:RSl (RI .i64) 1 Ψ pG0_0 pv0_0 p0.L) (ph1_0:RSl (RI .i64) 1 Ψ pG1_0 pv1_0 p1.L) {r:Bool} (h:pA N p0 p1=some r) :
  CB w0 prog 86 [.agg [pv0_0].toArray,.agg [pv1_0].toArray] (.bool r):=by
 refine eN func86 rfl ntmps86 rfl w0 fun hF=>?_
 unfold pA at h
 refine sr ?_
 refine ln (qY (C:=#[pv0_0]) rfl rfl) rfl (fun b_1=>?_)
 refine ln (qY (C:=#[pv1_0]) rfl rfl) rfl (fun b_2=>?_)
 refine arr 9 [0,32,0,0] rfl<|qd h (iU N · p0.L p1.L ph0_0 ph1_0 ·) rfl rfl rfl fun x1 h=>la rfl<|en ?_
 refine ch h rfl ?_ ?_ <;> intro h
 ·refine att 4 [] rfl ?_
  exact rt hF h
 refine att 5 [] rfl ?_
 exact rt hF h
theorem AQ (w0:ab Ψ Φ []) (p0:(List aP)) (p1:(List aP)) (ph0:RSl dP 1 Ψ pG0 pv0 p0) (ph1:RSl dP 1 Ψ pG1 pv1 p1) {r:Bool} (h:pM N p0 p1=some r) :
  CB w0 prog 41 [pv0,pv1] (.bool r):=by
 refine eN func41 rfl ntmps41 rfl w0 fun hF=>?_
 unfold pM at h
 refine atr 8 [] rfl<|lnr ph0 rfl<|la rfl<|lnr ph1 rfl<|la rfl<|en ?_
 refine ch h rfl ?_ ?_ <;> intro h
 ·refine att 4 [] rfl ?_
  exact rt hF h
 refine att 7 [] rfl ?_
 refine lin (σ:=Int) (fun s=>[(0,pv0),(1,pv1),(5,iV s)]) (fun s=>St w0 Φ [] []) (fun m s=>iK N p0 p1 m s=some r) (0) N h (sx [] []) (fun n1 ih1 s hm=>?_)
 revert hm; revert s; intro s1 hm
 have h:iK N p0 p1 (n1+1) s1=some r:=hm
 show WT _ _ [(0,pv0),(1,pv1),(5,iV s1)] (St w0 Φ [] [])
 unfold iK at h
 refine atr 5 [] rfl<|lnr ph0 rfl<|la rfl<|en ?_
 refine ch h rfl ?_ ?_ <;> intro h
 ·refine att 4 [] rfl<|WT.draw d7 (by kernel_rfl) (fun _ h=>h.drew)<|aqq 2 [] rfl ?_
  obtain ⟨x1,hx1,h⟩:=bs h
  obtain ⟨cs1,F1,-,g1,hb1,hs1,r1⟩:=ph0.el (a7 hx1).2.2
  obtain ⟨v1,G1,rfl,hq1,h1⟩:=r1
  obtain rfl:=hq1.symm
  refine qq (aa uJ rfl rfl ph0 hx1) rfl<|qq (aw Ds rfl (fun w1 hw=>(g1.of_eq 0 1 rfl rfl:rg _ _ _ [v1]).rangeAt hw.in0) rfl) rfl<|aqq 2 [] rfl ?_
  obtain ⟨x2,hx2,h⟩:=bs h
  obtain ⟨cs2,F2,-,g2,hb2,hs2,r2⟩:=ph1.el (a7 hx2).2.2
  obtain ⟨v2,G2,rfl,hq2,h2⟩:=r2
  obtain rfl:=hq2.symm
  refine qq (aa uJ rfl rfl ph1 hx2) rfl<|qq (aw Ds rfl (fun w1 hw=>(g2.of_eq 0 1 rfl rfl:rg _ _ _ [v2]).rangeAt hw.in0) rfl) rfl ?_
  obtain ⟨x3,hx3,h⟩:=bs h
  refine qp (bM Lp rfl (fun w1 hw=>E7 N (ba hw.in0) x1 x2 h1 h2 hx3)) rfl<|aqt 2 [] rfl ?_
  refine ch h rfl ?_ ?_ <;> intro h
  ·refine att 4 [] rfl ?_
   exact rt hF h
  refine att 7 [] rfl ?_
  exact lb [] [] (ih1 _ h)
 refine att 5 [] rfl ?_
 exact rt hF h
theorem Dk (w0:ab Ψ Φ []) (p0:ak) (p1:ak) (ph0_0:RSl (RI .i64) 1 Ψ pG0_0 pv0_0 p0.Ids) (ph0_1:RSl (RI .i64) 1 Ψ pG0_1 pv0_1 p0.Hits) (ph1_0:RSl (RI .i64) 1 Ψ pG1_0 pv1_0 p1.Ids) (ph1_1:RSl (RI .i64) 1 Ψ pG1_1 pv1_1 p1.Hits) {r:Bool} (h:pw N p0 p1=some r) :
  CB w0 prog 239 [.agg [pv0_0,pv0_1].toArray,.agg [pv1_0,pv1_1].toArray] (.bool r):=by
 refine eN func239 rfl ntmps239 rfl w0 fun hF=>?_
 unfold pw at h
 refine sr<|lbx rfl fun b_1=>lbx rfl fun b_2=>arr 9 [0,32,0,0] rfl<|qd h (iU N · p0.Ids p1.Ids ph0_0 ph1_0 ·) rfl rfl rfl fun x1 h=>la rfl<|en ?_
 refine ch h rfl ?_ ?_ <;> intro h
 ·refine att 4 [] rfl ?_
  exact rt hF h
 refine atr 8 [1,32,1,0] rfl<|qd h (iU N · p0.Hits p1.Hits ph0_1 ph1_1 ·) rfl rfl rfl fun x2 h=>la rfl<|en ?_
 refine ch h rfl ?_ ?_ <;> intro h
 ·refine att 4 [] rfl ?_
  exact rt hF h
 refine att 5 [] rfl ?_
 exact rt hF h
theorem BI (w0:ab Ψ Φ []) (p0:(List ak)) (p1:(List ak)) (ph0:RSl ic 2 Ψ pG0 pv0 p0) (ph1:RSl ic 2 Ψ pG1 pv1 p1) {r:Bool} (h:qH N p0 p1=some r) :
  CB w0 prog 217 [pv0,pv1] (.bool r):=by
 refine eN func217 rfl ntmps217 rfl w0 fun hF=>?_
 unfold qH at h
 refine atr 8 [] rfl<|lnr ph0 rfl<|la rfl<|lnr ph1 rfl<|la rfl<|en ?_
 refine ch h rfl ?_ ?_ <;> intro h
 ·refine att 4 [] rfl ?_
  exact rt hF h
 refine att 7 [] rfl ?_
 refine lin (σ:=Int) (fun s=>[(0,pv0),(1,pv1),(5,iV s)]) (fun s=>St w0 Φ [] []) (fun m s=>iM N p0 p1 m s=some r) (0) N h (sx [] []) (fun n1 ih1 s hm=>?_)
 revert hm; revert s; intro s1 hm
 have h:iM N p0 p1 (n1+1) s1=some r:=hm
 show WT _ _ [(0,pv0),(1,pv1),(5,iV s1)] (St w0 Φ [] [])
 unfold iM at h
 refine atr 5 [] rfl<|lnr ph0 rfl<|la rfl<|en ?_
 refine ch h rfl ?_ ?_ <;> intro h
 ·refine att 4 [] rfl<|WT.draw d7 (by kernel_rfl) (fun _ h=>h.drew)<|aqq 2 [] rfl ?_
  obtain ⟨x1,hx1,h⟩:=bs h
  obtain ⟨cs1,F1,-,g1,hb1,hs1,r1⟩:=ph0.el (a7 hx1).2.2
  obtain ⟨v1,G1,v2,G2,rfl,rfl,h1,h2⟩:=r1
  refine qq (aa dU rfl rfl ph0 hx1) rfl<|qq (aw Gl rfl (fun w1 hw=>(g1.of_eq 0 2 rfl rfl:rg _ _ _ [v1,v2]).rangeAt hw.in0) rfl) rfl<|aqq 2 [] rfl ?_
  obtain ⟨x2,hx2,h⟩:=bs h
  obtain ⟨cs2,F2,-,g2,hb2,hs2,r2⟩:=ph1.el (a7 hx2).2.2
  obtain ⟨v3,G3,v4,G4,rfl,rfl,h3,h4⟩:=r2
  refine qq (aa dU rfl rfl ph1 hx2) rfl<|qq (aw Gl rfl (fun w1 hw=>(g2.of_eq 0 2 rfl rfl:rg _ _ _ [v3,v4]).rangeAt hw.in0) rfl) rfl ?_
  obtain ⟨x3,hx3,h⟩:=bs h
  refine qp (bM IZ rfl (fun w1 hw=>Dk N (ba hw.in0) x1 x2 h1 h2 h3 h4 hx3)) rfl<|aqt 2 [] rfl ?_
  refine ch h rfl ?_ ?_ <;> intro h
  ·refine att 4 [] rfl ?_
   exact rt hF h
  refine att 7 [] rfl ?_
  exact lb [] [] (ih1 _ h)
 refine att 5 [] rfl ?_
 exact rt hF h
theorem zg (w0:ab Ψ Φ []) (p0:ae) (p1:ae) (ph0_0:RSl ic 2 Ψ pG0_0 pv0_0 p0.Toks) (ph1_0:RSl ic 2 Ψ pG1_0 pv1_0 p1.Toks) {r:Bool} (h:lB N p0 p1=some r) :
  CB w0 prog 183 [.agg [pv0_0].toArray,.agg [pv1_0].toArray] (.bool r):=by
 refine eN func183 rfl ntmps183 rfl w0 fun hF=>?_
 unfold lB at h
 refine sr ?_
 refine ln (qY (C:=#[pv0_0]) rfl rfl) rfl (fun b_1=>?_)
 refine ln (qY (C:=#[pv1_0]) rfl rfl) rfl (fun b_2=>?_)
 refine arr 9 [0,32,0,0] rfl<|qd h (BI N · p0.Toks p1.Toks ph0_0 ph1_0 ·) rfl rfl rfl fun x1 h=>la rfl<|en ?_
 refine ch h rfl ?_ ?_ <;> intro h
 ·refine att 4 [] rfl ?_
  exact rt hF h
 refine att 5 [] rfl ?_
 exact rt hF h
theorem xQ (w0:ab Ψ Φ []) (p0:(List ae)) (p1:(List ae)) (ph0:RSl dI 1 Ψ pG0 pv0 p0) (ph1:RSl dI 1 Ψ pG1 pv1 p1) {r:Bool} (h:mI N p0 p1=some r) :
  CB w0 prog 143 [pv0,pv1] (.bool r):=by
 refine eN func143 rfl ntmps143 rfl w0 fun hF=>?_
 unfold mI at h
 refine atr 8 [] rfl<|lnr ph0 rfl<|la rfl<|lnr ph1 rfl<|la rfl<|en ?_
 refine ch h rfl ?_ ?_ <;> intro h
 ·refine att 4 [] rfl ?_
  exact rt hF h
 refine att 7 [] rfl ?_
 refine lin (σ:=Int) (fun s=>[(0,pv0),(1,pv1),(5,iV s)]) (fun s=>St w0 Φ [] []) (fun m s=>gl N p0 p1 m s=some r) (0) N h (sx [] []) (fun n1 ih1 s hm=>?_)
 revert hm; revert s; intro s1 hm
 have h:gl N p0 p1 (n1+1) s1=some r:=hm
 show WT _ _ [(0,pv0),(1,pv1),(5,iV s1)] (St w0 Φ [] [])
 unfold gl at h
 refine atr 5 [] rfl<|lnr ph0 rfl<|la rfl<|en ?_
 refine ch h rfl ?_ ?_ <;> intro h
 ·refine att 4 [] rfl<|WT.draw d7 (by kernel_rfl) (fun _ h=>h.drew)<|aqq 2 [] rfl ?_
  obtain ⟨x1,hx1,h⟩:=bs h
  obtain ⟨cs1,F1,-,g1,hb1,hs1,r1⟩:=ph0.el (a7 hx1).2.2
  obtain ⟨v1,G1,rfl,hq1,h1⟩:=r1
  obtain rfl:=hq1.symm
  refine qq (aa lW rfl rfl ph0 hx1) rfl<|qq (aw yT rfl (fun w1 hw=>(g1.of_eq 0 1 rfl rfl:rg _ _ _ [v1]).rangeAt hw.in0) rfl) rfl<|aqq 2 [] rfl ?_
  obtain ⟨x2,hx2,h⟩:=bs h
  obtain ⟨cs2,F2,-,g2,hb2,hs2,r2⟩:=ph1.el (a7 hx2).2.2
  obtain ⟨v2,G2,rfl,hq2,h2⟩:=r2
  obtain rfl:=hq2.symm
  refine qq (aa lW rfl rfl ph1 hx2) rfl<|qq (aw yT rfl (fun w1 hw=>(g2.of_eq 0 1 rfl rfl:rg _ _ _ [v2]).rangeAt hw.in0) rfl) rfl ?_
  obtain ⟨x3,hx3,h⟩:=bs h
  refine qp (bM J1 rfl (fun w1 hw=>zg N (ba hw.in0) x1 x2 h1 h2 hx3)) rfl<|aqt 2 [] rfl ?_
  refine ch h rfl ?_ ?_ <;> intro h
  ·refine att 4 [] rfl ?_
   exact rt hF h
  refine att 7 [] rfl ?_
  exact lb [] [] (ih1 _ h)
 refine att 5 [] rfl ?_
 exact rt hF h
theorem CH (w0:ab Ψ Φ []) (p0:aC) (p1:aC) (ph0_0:RSl dI 1 Ψ pG0_0 pv0_0 p0.Levels) (ph1_0:RSl dI 1 Ψ pG1_0 pv1_0 p1.Levels) {r:Bool} (h:pI N p0 p1=some r) :
  CB w0 prog 87 [.agg [pv0_0].toArray,.agg [pv1_0].toArray] (.bool r):=by
 refine eN func87 rfl ntmps87 rfl w0 fun hF=>?_
 unfold pI at h
 refine sr ?_
 refine ln (qY (C:=#[pv0_0]) rfl rfl) rfl (fun b_1=>?_)
 refine ln (qY (C:=#[pv1_0]) rfl rfl) rfl (fun b_2=>?_)
 refine arr 9 [0,32,0,0] rfl<|qd h (xQ N · p0.Levels p1.Levels ph0_0 ph1_0 ·) rfl rfl rfl fun x1 h=>la rfl<|en ?_
 refine ch h rfl ?_ ?_ <;> intro h
 ·refine att 4 [] rfl ?_
  exact rt hF h
 refine att 5 [] rfl ?_
 exact rt hF h
theorem Az (w0:ab Ψ Φ []) (p0:(List aC)) (p1:(List aC)) (ph0:RSl fx 1 Ψ pG0 pv0 p0) (ph1:RSl fx 1 Ψ pG1 pv1 p1) {r:Bool} (h:qX N p0 p1=some r) :
  CB w0 prog 42 [pv0,pv1] (.bool r):=by
 refine eN func42 rfl ntmps42 rfl w0 fun hF=>?_
 unfold qX at h
 refine atr 8 [] rfl<|lnr ph0 rfl<|la rfl<|lnr ph1 rfl<|la rfl<|en ?_
 refine ch h rfl ?_ ?_ <;> intro h
 ·refine att 4 [] rfl ?_
  exact rt hF h
 refine att 7 [] rfl ?_
 refine lin (σ:=Int) (fun s=>[(0,pv0),(1,pv1),(5,iV s)]) (fun s=>St w0 Φ [] []) (fun m s=>j6 N p0 p1 m s=some r) (0) N h (sx [] []) (fun n1 ih1 s hm=>?_)
 revert hm; revert s; intro s1 hm
 have h:j6 N p0 p1 (n1+1) s1=some r:=hm
 show WT _ _ [(0,pv0),(1,pv1),(5,iV s1)] (St w0 Φ [] [])
 unfold j6 at h
 refine atr 5 [] rfl<|lnr ph0 rfl<|la rfl<|en ?_
 refine ch h rfl ?_ ?_ <;> intro h
 ·refine att 4 [] rfl<|WT.draw d7 (by kernel_rfl) (fun _ h=>h.drew)<|aqq 2 [] rfl ?_
  obtain ⟨x1,hx1,h⟩:=bs h
  obtain ⟨cs1,F1,-,g1,hb1,hs1,r1⟩:=ph0.el (a7 hx1).2.2
  obtain ⟨v1,G1,rfl,hq1,h1⟩:=r1
  obtain rfl:=hq1.symm
  refine qq (aa xd rfl rfl ph0 hx1) rfl<|qq (aw wA rfl (fun w1 hw=>(g1.of_eq 0 1 rfl rfl:rg _ _ _ [v1]).rangeAt hw.in0) rfl) rfl<|aqq 2 [] rfl ?_
  obtain ⟨x2,hx2,h⟩:=bs h
  obtain ⟨cs2,F2,-,g2,hb2,hs2,r2⟩:=ph1.el (a7 hx2).2.2
  obtain ⟨v2,G2,rfl,hq2,h2⟩:=r2
  obtain rfl:=hq2.symm
  refine qq (aa xd rfl rfl ph1 hx2) rfl<|qq (aw wA rfl (fun w1 hw=>(g2.of_eq 0 1 rfl rfl:rg _ _ _ [v2]).rangeAt hw.in0) rfl) rfl ?_
  obtain ⟨x3,hx3,h⟩:=bs h
  refine qp (bM Lj rfl (fun w1 hw=>CH N (ba hw.in0) x1 x2 h1 h2 hx3)) rfl<|aqt 2 [] rfl ?_
  refine ch h rfl ?_ ?_ <;> intro h
  ·refine att 4 [] rfl ?_
   exact rt hF h
  refine att 7 [] rfl ?_
  exact lb [] [] (ih1 _ h)
 refine att 5 [] rfl ?_
 exact rt hF h
theorem p9 (w0:ab Ψ Φ []) (p0:aG) (p1:aG) (ph0_0:RSl dP 1 Ψ pG0_0 pv0_0 p0.Alphas) (ph0_1:RSl fx 1 Ψ pG0_1 pv0_1 p0.Rules) (ph1_0:RSl dP 1 Ψ pG1_0 pv1_0 p1.Alphas) (ph1_1:RSl fx 1 Ψ pG1_1 pv1_1 p1.Rules) {r:Bool} (h:kZ N p0 p1=some r) :
  CB w0 prog 14 [.agg [pv0_0,pv0_1].toArray,.agg [pv1_0,pv1_1].toArray] (.bool r):=by
 refine eN func14 rfl ntmps14 rfl w0 fun hF=>?_
 unfold kZ at h
 refine sr<|lbx rfl fun b_1=>lbx rfl fun b_2=>arr 9 [0,32,0,0] rfl<|qd h (AQ N · p0.Alphas p1.Alphas ph0_0 ph1_0 ·) rfl rfl rfl fun x1 h=>la rfl<|en ?_
 refine ch h rfl ?_ ?_ <;> intro h
 ·refine att 4 [] rfl ?_
  exact rt hF h
 refine atr 8 [1,32,1,0] rfl<|qd h (Az N · p0.Rules p1.Rules ph0_1 ph1_1 ·) rfl rfl rfl fun x2 h=>la rfl<|en ?_
 refine ch h rfl ?_ ?_ <;> intro h
 ·refine att 4 [] rfl ?_
  exact rt hF h
 refine att 5 [] rfl ?_
 exact rt hF h
theorem vU  (w0:ab Ψ Φ []) (p0:aE) (p1:aE)  {r:Bool} (h:mX N p0 p1=some r) :
  CB w0 prog 187 [.agg [iV p0.K,iV p0.N,.string p0.S].toArray,.agg [iV p1.K,iV p1.N,.string p1.S].toArray] (.bool r):=by
 refine eN func187 rfl ntmps187 rfl w0 fun hF=>?_
 unfold mX at h
 refine sr<|lbx rfl fun b_1=>lbx rfl fun b_2=>art 11 [0,32,0,0] rfl ?_
 refine ch h rfl ?_ ?_ <;> intro h
 ·refine att 4 [] rfl ?_
  exact rt hF h
 refine att 10 [1,32,1,0] rfl ?_
 refine ch h rfl ?_ ?_ <;> intro h
 ·refine att 4 [] rfl ?_
  exact rt hF h
 refine att 10 [2,32,2,0] rfl ?_
 refine ch h rfl ?_ ?_ <;> intro h
 ·refine att 4 [] rfl ?_
  exact rt hF h
 refine att 5 [] rfl ?_
 exact rt hF h
theorem mF  (w0:ab Ψ Φ []) (p0:aW) (p1:aW)  {r:Bool} (h:iQ N p0 p1=some r) :
  CB w0 prog 219 [.agg [iV p0.K,.string p0.S,iV p0.V.K,iV p0.V.N,.string p0.V.S].toArray,.agg [iV p1.K,.string p1.S,iV p1.V.K,iV p1.V.N,.string p1.V.S].toArray] (.bool r):=by
 refine eN func219 rfl ntmps219 rfl w0 fun hF=>?_
 unfold iQ at h
 refine sr<|lbx rfl fun b_1=>lbx rfl fun b_2=>art 11 [0,32,0,0] rfl ?_
 refine ch h rfl ?_ ?_ <;> intro h
 ·refine att 4 [] rfl ?_
  exact rt hF h
 refine att 10 [1,32,1,0] rfl ?_
 refine ch h rfl ?_ ?_ <;> intro h
 ·refine att 4 [] rfl ?_
  exact rt hF h
 refine atr 8 [2,35,2,3] rfl<|qc h (vU N · p0.V p1.V ·) rfl rfl rfl fun x1 h=>la rfl<|en ?_
 refine ch h rfl ?_ ?_ <;> intro h
 ·refine att 4 [] rfl ?_
  exact rt hF h
 refine att 5 [] rfl ?_
 exact rt hF h
theorem Bx (w0:ab Ψ Φ []) (p0:(List aW)) (p1:(List aW)) (ph0:RSl bO 5 Ψ pG0 pv0 p0) (ph1:RSl bO 5 Ψ pG1 pv1 p1) {r:Bool} (h:qQ N p0 p1=some r) :
  CB w0 prog 218 [pv0,pv1] (.bool r):=by
 refine eN func218 rfl ntmps218 rfl w0 fun hF=>?_
 unfold qQ at h
 refine atr 8 [] rfl<|lnr ph0 rfl<|la rfl<|lnr ph1 rfl<|la rfl<|en ?_
 refine ch h rfl ?_ ?_ <;> intro h
 ·refine att 4 [] rfl ?_
  exact rt hF h
 refine att 7 [] rfl ?_
 refine lin (σ:=Int) (fun s=>[(0,pv0),(1,pv1),(5,iV s)]) (fun s=>St w0 Φ [] []) (fun m s=>j5 N p0 p1 m s=some r) (0) N h (sx [] []) (fun n1 ih1 s hm=>?_)
 revert hm; revert s; intro s1 hm
 have h:j5 N p0 p1 (n1+1) s1=some r:=hm
 show WT _ _ [(0,pv0),(1,pv1),(5,iV s1)] (St w0 Φ [] [])
 unfold j5 at h
 refine atr 5 [] rfl<|lnr ph0 rfl<|la rfl<|en ?_
 refine ch h rfl ?_ ?_ <;> intro h
 ·refine att 4 [] rfl<|WT.draw d7 (by kernel_rfl) (fun _ h=>h.drew)<|aqq 2 [] rfl ?_
  obtain ⟨x1,hx1,h⟩:=bs h
  obtain ⟨cs1,F1,-,g1,hb1,hs1,r1⟩:=ph0.el (a7 hx1).2.2
  obtain ⟨rfl,-⟩:=r1
  refine qq (aa wx rfl rfl ph0 hx1) rfl<|qq (aw Eh rfl (fun w1 hw=>(g1.of_eq 0 5 rfl rfl:rg _ _ _ [iV x1.K,.string x1.S,iV x1.V.K,iV x1.V.N,.string x1.V.S]).rangeAt hw.in0) rfl) rfl<|aqq 2 [] rfl ?_
  obtain ⟨x2,hx2,h⟩:=bs h
  obtain ⟨cs2,F2,-,g2,hb2,hs2,r2⟩:=ph1.el (a7 hx2).2.2
  obtain ⟨rfl,-⟩:=r2
  refine qq (aa wx rfl rfl ph1 hx2) rfl<|qq (aw Eh rfl (fun w1 hw=>(g2.of_eq 0 5 rfl rfl:rg _ _ _ [iV x2.K,.string x2.S,iV x2.V.K,iV x2.V.N,.string x2.V.S]).rangeAt hw.in0) rfl) rfl ?_
  obtain ⟨x3,hx3,h⟩:=bs h
  refine qp (bM JE rfl (fun w1 hw=>mF N (ba hw.fro) x1 x2 hx3)) rfl<|aqt 2 [] rfl ?_
  refine ch h rfl ?_ ?_ <;> intro h
  ·refine att 4 [] rfl ?_
   exact rt hF h
  refine att 7 [] rfl ?_
  exact lb [] [] (ih1 _ h)
 refine att 5 [] rfl ?_
 exact rt hF h
theorem DK (w0:ab Ψ Φ []) (p0:ax) (p1:ax) (ph0_0:RSl bO 5 Ψ pG0_0 pv0_0 p0.Args) (ph1_0:RSl bO 5 Ψ pG1_0 pv1_0 p1.Args) {r:Bool} (h:pG N p0 p1=some r) :
  CB w0 prog 184 [.agg [.string p0.Kind,pv0_0,.bool p0.Not].toArray,.agg [.string p1.Kind,pv1_0,.bool p1.Not].toArray] (.bool r):=by
 refine eN func184 rfl ntmps184 rfl w0 fun hF=>?_
 unfold pG at h
 refine sr<|lbx rfl fun b_1=>lbx rfl fun b_2=>art 11 [0,32,0,0] rfl ?_
 refine ch h rfl ?_ ?_ <;> intro h
 ·refine att 4 [] rfl ?_
  exact rt hF h
 refine atr 8 [1,32,1,0] rfl<|qd h (Bx N · p0.Args p1.Args ph0_0 ph1_0 ·) rfl rfl rfl fun x1 h=>la rfl<|en ?_
 refine ch h rfl ?_ ?_ <;> intro h
 ·refine att 4 [] rfl ?_
  exact rt hF h
 refine atr 8 [2,32,2,0] rfl<|lq (JW LI rfl rfl) rfl<|en ?_
 refine ch h rfl ?_ ?_ <;> intro h
 ·refine att 4 [] rfl ?_
  exact rt hF h
 refine att 5 [] rfl ?_
 exact rt hF h
theorem BJ (w0:ab Ψ Φ []) (p0:(List ax)) (p1:(List ax)) (ph0:RSl bR 3 Ψ pG0 pv0 p0) (ph1:RSl bR 3 Ψ pG1 pv1 p1) {r:Bool} (h:pO N p0 p1=some r) :
  CB w0 prog 144 [pv0,pv1] (.bool r):=by
 refine eN func144 rfl ntmps144 rfl w0 fun hF=>?_
 unfold pO at h
 refine atr 8 [] rfl<|lnr ph0 rfl<|la rfl<|lnr ph1 rfl<|la rfl<|en ?_
 refine ch h rfl ?_ ?_ <;> intro h
 ·refine att 4 [] rfl ?_
  exact rt hF h
 refine att 7 [] rfl ?_
 refine lin (σ:=Int) (fun s=>[(0,pv0),(1,pv1),(5,iV s)]) (fun s=>St w0 Φ [] []) (fun m s=>je N p0 p1 m s=some r) (0) N h (sx [] []) (fun n1 ih1 s hm=>?_)
 revert hm; revert s; intro s1 hm
 have h:je N p0 p1 (n1+1) s1=some r:=hm
 show WT _ _ [(0,pv0),(1,pv1),(5,iV s1)] (St w0 Φ [] [])
 unfold je at h
 refine atr 5 [] rfl<|lnr ph0 rfl<|la rfl<|en ?_
 refine ch h rfl ?_ ?_ <;> intro h
 ·refine att 4 [] rfl<|WT.draw d7 (by kernel_rfl) (fun _ h=>h.drew)<|aqq 2 [] rfl ?_
  obtain ⟨x1,hx1,h⟩:=bs h
  obtain ⟨cs1,F1,-,g1,hb1,hs1,r1⟩:=ph0.el (a7 hx1).2.2
  obtain ⟨v1,G1,rfl,hq1,h1⟩:=r1
  obtain rfl:=hq1.symm
  refine qq (aa tC rfl rfl ph0 hx1) rfl<|qq (aw uW rfl (fun w1 hw=>(g1.of_eq 0 3 rfl rfl:rg _ _ _ [.string x1.Kind,v1,.bool x1.Not]).rangeAt hw.in0) rfl) rfl<|aqq 2 [] rfl ?_
  obtain ⟨x2,hx2,h⟩:=bs h
  obtain ⟨cs2,F2,-,g2,hb2,hs2,r2⟩:=ph1.el (a7 hx2).2.2
  obtain ⟨v2,G2,rfl,hq2,h2⟩:=r2
  obtain rfl:=hq2.symm
  refine qq (aa tC rfl rfl ph1 hx2) rfl<|qq (aw uW rfl (fun w1 hw=>(g2.of_eq 0 3 rfl rfl:rg _ _ _ [.string x2.Kind,v2,.bool x2.Not]).rangeAt hw.in0) rfl) rfl ?_
  obtain ⟨x3,hx3,h⟩:=bs h
  refine qp (bM Jx rfl (fun w1 hw=>DK N (ba hw.in0) x1 x2 h1 h2 hx3)) rfl<|aqt 2 [] rfl ?_
  refine ch h rfl ?_ ?_ <;> intro h
  ·refine att 4 [] rfl ?_
   exact rt hF h
  refine att 7 [] rfl ?_
  exact lb [] [] (ih1 _ h)
 refine att 5 [] rfl ?_
 exact rt hF h
theorem Bb  (w0:ab Ψ Φ []) (p0:bj) (p1:bj)  {r:Bool} (h:nC N p0 p1=some r) :
  CB w0 prog 185 [.agg [iV p0.Op,iV p0.L.K,.string p0.L.S,iV p0.L.V.K,iV p0.L.V.N,.string p0.L.V.S,iV p0.R.K,.string p0.R.S,iV p0.R.V.K,iV p0.R.V.N,.string p0.R.V.S].toArray,.agg [iV p1.Op,iV p1.L.K,.string p1.L.S,iV p1.L.V.K,iV p1.L.V.N,.string p1.L.V.S,iV p1.R.K,.string p1.R.S,iV p1.R.V.K,iV p1.R.V.N,.string p1.R.V.S].toArray] (.bool r):=by
 refine eN func185 rfl ntmps185 rfl w0 fun hF=>?_
 unfold nC at h
 refine sr<|lbx rfl fun b_1=>lbx rfl fun b_2=>art 11 [0,32,0,0] rfl ?_
 refine ch h rfl ?_ ?_ <;> intro h
 ·refine att 4 [] rfl ?_
  exact rt hF h
 refine atr 8 [1,37,1,5] rfl<|qc h (mF N · p0.L p1.L ·) rfl rfl rfl fun x1 h=>la rfl<|en ?_
 refine ch h rfl ?_ ?_ <;> intro h
 ·refine att 4 [] rfl ?_
  exact rt hF h
 refine atr 8 [6,37,6,5] rfl<|qc h (mF N · p0.R p1.R ·) rfl rfl rfl fun x2 h=>la rfl<|en ?_
 refine ch h rfl ?_ ?_ <;> intro h
 ·refine att 4 [] rfl ?_
  exact rt hF h
 refine att 5 [] rfl ?_
 exact rt hF h
theorem yP (w0:ab Ψ Φ []) (p0:(List bj)) (p1:(List bj)) (ph0:RSl aZ 11 Ψ pG0 pv0 p0) (ph1:RSl aZ 11 Ψ pG1 pv1 p1) {r:Bool} (h:ov N p0 p1=some r) :
  CB w0 prog 145 [pv0,pv1] (.bool r):=by
 refine eN func145 rfl ntmps145 rfl w0 fun hF=>?_
 unfold ov at h
 refine atr 8 [] rfl<|lnr ph0 rfl<|la rfl<|lnr ph1 rfl<|la rfl<|en ?_
 refine ch h rfl ?_ ?_ <;> intro h
 ·refine att 4 [] rfl ?_
  exact rt hF h
 refine att 7 [] rfl ?_
 refine lin (σ:=Int) (fun s=>[(0,pv0),(1,pv1),(5,iV s)]) (fun s=>St w0 Φ [] []) (fun m s=>hH N p0 p1 m s=some r) (0) N h (sx [] []) (fun n1 ih1 s hm=>?_)
 revert hm; revert s; intro s1 hm
 have h:hH N p0 p1 (n1+1) s1=some r:=hm
 show WT _ _ [(0,pv0),(1,pv1),(5,iV s1)] (St w0 Φ [] [])
 unfold hH at h
 refine atr 5 [] rfl<|lnr ph0 rfl<|la rfl<|en ?_
 refine ch h rfl ?_ ?_ <;> intro h
 ·refine att 4 [] rfl<|WT.draw d7 (by kernel_rfl) (fun _ h=>h.drew)<|aqq 2 [] rfl ?_
  obtain ⟨x1,hx1,h⟩:=bs h
  obtain ⟨cs1,F1,-,g1,hb1,hs1,r1⟩:=ph0.el (a7 hx1).2.2
  obtain ⟨rfl,-⟩:=r1
  refine qq (aa FC rfl rfl ph0 hx1) rfl<|qq (aw FR rfl (fun w1 hw=>(g1.of_eq 0 11 rfl rfl:rg _ _ _ [iV x1.Op,iV x1.L.K,.string x1.L.S,iV x1.L.V.K,iV x1.L.V.N,.string x1.L.V.S,iV x1.R.K,.string x1.R.S,iV x1.R.V.K,iV x1.R.V.N,.string x1.R.V.S]).rangeAt hw.in0) rfl) rfl<|aqq 2 [] rfl ?_
  obtain ⟨x2,hx2,h⟩:=bs h
  obtain ⟨cs2,F2,-,g2,hb2,hs2,r2⟩:=ph1.el (a7 hx2).2.2
  obtain ⟨rfl,-⟩:=r2
  refine qq (aa FC rfl rfl ph1 hx2) rfl<|qq (aw FR rfl (fun w1 hw=>(g2.of_eq 0 11 rfl rfl:rg _ _ _ [iV x2.Op,iV x2.L.K,.string x2.L.S,iV x2.L.V.K,iV x2.L.V.N,.string x2.L.V.S,iV x2.R.K,.string x2.R.S,iV x2.R.V.K,iV x2.R.V.N,.string x2.R.V.S]).rangeAt hw.in0) rfl) rfl ?_
  obtain ⟨x3,hx3,h⟩:=bs h
  refine qp (bM Jb rfl (fun w1 hw=>Bb N (ba hw.fro) x1 x2 hx3)) rfl<|aqt 2 [] rfl ?_
  refine ch h rfl ?_ ?_ <;> intro h
  ·refine att 4 [] rfl ?_
   exact rt hF h
  refine att 7 [] rfl ?_
  exact lb [] [] (ih1 _ h)
 refine att 5 [] rfl ?_
 exact rt hF h
theorem B2  (w0:ab Ψ Φ []) (p0:bh) (p1:bh)  {r:Bool} (h:mY N p0 p1=some r) :
  CB w0 prog 240 [.agg [.string p0.Op,iV p0.L.K,.string p0.L.S,iV p0.L.V.K,iV p0.L.V.N,.string p0.L.V.S,iV p0.R.K,.string p0.R.S,iV p0.R.V.K,iV p0.R.V.N,.string p0.R.V.S].toArray,.agg [.string p1.Op,iV p1.L.K,.string p1.L.S,iV p1.L.V.K,iV p1.L.V.N,.string p1.L.V.S,iV p1.R.K,.string p1.R.S,iV p1.R.V.K,iV p1.R.V.N,.string p1.R.V.S].toArray] (.bool r):=by
 refine eN func240 rfl ntmps240 rfl w0 fun hF=>?_
 unfold mY at h
 refine sr<|lbx rfl fun b_1=>lbx rfl fun b_2=>art 11 [0,32,0,0] rfl ?_
 refine ch h rfl ?_ ?_ <;> intro h
 ·refine att 4 [] rfl ?_
  exact rt hF h
 refine atr 8 [1,37,1,5] rfl<|qc h (mF N · p0.L p1.L ·) rfl rfl rfl fun x1 h=>la rfl<|en ?_
 refine ch h rfl ?_ ?_ <;> intro h
 ·refine att 4 [] rfl ?_
  exact rt hF h
 refine atr 8 [6,37,6,5] rfl<|qc h (mF N · p0.R p1.R ·) rfl rfl rfl fun x2 h=>la rfl<|en ?_
 refine ch h rfl ?_ ?_ <;> intro h
 ·refine att 4 [] rfl ?_
  exact rt hF h
 refine att 5 [] rfl ?_
 exact rt hF h
theorem ze (w0:ab Ψ Φ []) (p0:(List bh)) (p1:(List bh)) (ph0:RSl bq 11 Ψ pG0 pv0 p0) (ph1:RSl bq 11 Ψ pG1 pv1 p1) {r:Bool} (h:ot N p0 p1=some r) :
  CB w0 prog 220 [pv0,pv1] (.bool r):=by
 refine eN func220 rfl ntmps220 rfl w0 fun hF=>?_
 unfold ot at h
 refine atr 8 [] rfl<|lnr ph0 rfl<|la rfl<|lnr ph1 rfl<|la rfl<|en ?_
 refine ch h rfl ?_ ?_ <;> intro h
 ·refine att 4 [] rfl ?_
  exact rt hF h
 refine att 7 [] rfl ?_
 refine lin (σ:=Int) (fun s=>[(0,pv0),(1,pv1),(5,iV s)]) (fun s=>St w0 Φ [] []) (fun m s=>hY N p0 p1 m s=some r) (0) N h (sx [] []) (fun n1 ih1 s hm=>?_)
 revert hm; revert s; intro s1 hm
 have h:hY N p0 p1 (n1+1) s1=some r:=hm
 show WT _ _ [(0,pv0),(1,pv1),(5,iV s1)] (St w0 Φ [] [])
 unfold hY at h
 refine atr 5 [] rfl<|lnr ph0 rfl<|la rfl<|en ?_
 refine ch h rfl ?_ ?_ <;> intro h
 ·refine att 4 [] rfl<|WT.draw d7 (by kernel_rfl) (fun _ h=>h.drew)<|aqq 2 [] rfl ?_
  obtain ⟨x1,hx1,h⟩:=bs h
  obtain ⟨cs1,F1,-,g1,hb1,hs1,r1⟩:=ph0.el (a7 hx1).2.2
  obtain ⟨rfl,-⟩:=r1
  refine qq (aa FI rfl rfl ph0 hx1) rfl<|qq (aw Fz rfl (fun w1 hw=>(g1.of_eq 0 11 rfl rfl:rg _ _ _ [.string x1.Op,iV x1.L.K,.string x1.L.S,iV x1.L.V.K,iV x1.L.V.N,.string x1.L.V.S,iV x1.R.K,.string x1.R.S,iV x1.R.V.K,iV x1.R.V.N,.string x1.R.V.S]).rangeAt hw.in0) rfl) rfl<|aqq 2 [] rfl ?_
  obtain ⟨x2,hx2,h⟩:=bs h
  obtain ⟨cs2,F2,-,g2,hb2,hs2,r2⟩:=ph1.el (a7 hx2).2.2
  obtain ⟨rfl,-⟩:=r2
  refine qq (aa FI rfl rfl ph1 hx2) rfl<|qq (aw Fz rfl (fun w1 hw=>(g2.of_eq 0 11 rfl rfl:rg _ _ _ [.string x2.Op,iV x2.L.K,.string x2.L.S,iV x2.L.V.K,iV x2.L.V.N,.string x2.L.V.S,iV x2.R.K,.string x2.R.S,iV x2.R.V.K,iV x2.R.V.N,.string x2.R.V.S]).rangeAt hw.in0) rfl) rfl ?_
  obtain ⟨x3,hx3,h⟩:=bs h
  refine qp (bM JA rfl (fun w1 hw=>B2 N (ba hw.fro) x1 x2 hx3)) rfl<|aqt 2 [] rfl ?_
  refine ch h rfl ?_ ?_ <;> intro h
  ·refine att 4 [] rfl ?_
   exact rt hF h
  refine att 7 [] rfl ?_
  exact lb [] [] (ih1 _ h)
 refine att 5 [] rfl ?_
 exact rt hF h
theorem DR (w0:ab Ψ Φ []) (p0:bH) (p1:bH) (ph0_0:RSl bq 11 Ψ pG0_0 pv0_0 p0.Args) (ph1_0:RSl bq 11 Ψ pG1_0 pv1_0 p1.Args) {r:Bool} (h:pu N p0 p1=some r) :
  CB w0 prog 186 [.agg [iV p0.Kind,.string p0.Name,pv0_0,iV p0.N,.string p0.Undo].toArray,.agg [iV p1.Kind,.string p1.Name,pv1_0,iV p1.N,.string p1.Undo].toArray] (.bool r):=by
 refine eN func186 rfl ntmps186 rfl w0 fun hF=>?_
 unfold pu at h
 refine sr<|lbx rfl fun b_1=>lbx rfl fun b_2=>art 11 [0,32,0,0] rfl ?_
 refine ch h rfl ?_ ?_ <;> intro h
 ·refine att 4 [] rfl ?_
  exact rt hF h
 refine att 10 [1,32,1,0] rfl ?_
 refine ch h rfl ?_ ?_ <;> intro h
 ·refine att 4 [] rfl ?_
  exact rt hF h
 refine atr 8 [2,32,2,0] rfl<|qd h (ze N · p0.Args p1.Args ph0_0 ph1_0 ·) rfl rfl rfl fun x1 h=>la rfl<|en ?_
 refine ch h rfl ?_ ?_ <;> intro h
 ·refine att 4 [] rfl ?_
  exact rt hF h
 refine att 10 [3,32,3,0] rfl ?_
 refine ch h rfl ?_ ?_ <;> intro h
 ·refine att 4 [] rfl ?_
  exact rt hF h
 refine att 10 [4,32,4,0] rfl ?_
 refine ch h rfl ?_ ?_ <;> intro h
 ·refine att 4 [] rfl ?_
  exact rt hF h
 refine att 5 [] rfl ?_
 exact rt hF h
theorem BE (w0:ab Ψ Φ []) (p0:(List bH)) (p1:(List bH)) (ph0:RSl dZ 5 Ψ pG0 pv0 p0) (ph1:RSl dZ 5 Ψ pG1 pv1 p1) {r:Bool} (h:q8 N p0 p1=some r) :
  CB w0 prog 146 [pv0,pv1] (.bool r):=by
 refine eN func146 rfl ntmps146 rfl w0 fun hF=>?_
 unfold q8 at h
 refine atr 8 [] rfl<|lnr ph0 rfl<|la rfl<|lnr ph1 rfl<|la rfl<|en ?_
 refine ch h rfl ?_ ?_ <;> intro h
 ·refine att 4 [] rfl ?_
  exact rt hF h
 refine att 7 [] rfl ?_
 refine lin (σ:=Int) (fun s=>[(0,pv0),(1,pv1),(5,iV s)]) (fun s=>St w0 Φ [] []) (fun m s=>iZ N p0 p1 m s=some r) (0) N h (sx [] []) (fun n1 ih1 s hm=>?_)
 revert hm; revert s; intro s1 hm
 have h:iZ N p0 p1 (n1+1) s1=some r:=hm
 show WT _ _ [(0,pv0),(1,pv1),(5,iV s1)] (St w0 Φ [] [])
 unfold iZ at h
 refine atr 5 [] rfl<|lnr ph0 rfl<|la rfl<|en ?_
 refine ch h rfl ?_ ?_ <;> intro h
 ·refine att 4 [] rfl<|WT.draw d7 (by kernel_rfl) (fun _ h=>h.drew)<|aqq 2 [] rfl ?_
  obtain ⟨x1,hx1,h⟩:=bs h
  obtain ⟨cs1,F1,-,g1,hb1,hs1,r1⟩:=ph0.el (a7 hx1).2.2
  obtain ⟨v1,G1,rfl,hq1,h1⟩:=r1
  obtain rfl:=hq1.symm
  refine qq (aa FM rfl rfl ph0 hx1) rfl<|qq (aw CM rfl (fun w1 hw=>(g1.of_eq 0 5 rfl rfl:rg _ _ _ [iV x1.Kind,.string x1.Name,v1,iV x1.N,.string x1.Undo]).rangeAt hw.in0) rfl) rfl<|aqq 2 [] rfl ?_
  obtain ⟨x2,hx2,h⟩:=bs h
  obtain ⟨cs2,F2,-,g2,hb2,hs2,r2⟩:=ph1.el (a7 hx2).2.2
  obtain ⟨v2,G2,rfl,hq2,h2⟩:=r2
  obtain rfl:=hq2.symm
  refine qq (aa FM rfl rfl ph1 hx2) rfl<|qq (aw CM rfl (fun w1 hw=>(g2.of_eq 0 5 rfl rfl:rg _ _ _ [iV x2.Kind,.string x2.Name,v2,iV x2.N,.string x2.Undo]).rangeAt hw.in0) rfl) rfl ?_
  obtain ⟨x3,hx3,h⟩:=bs h
  refine qp (bM IQ rfl (fun w1 hw=>DR N (ba hw.in0) x1 x2 h1 h2 hx3)) rfl<|aqt 2 [] rfl ?_
  refine ch h rfl ?_ ?_ <;> intro h
  ·refine att 4 [] rfl ?_
   exact rt hF h
  refine att 7 [] rfl ?_
  exact lb [] [] (ih1 _ h)
 refine att 5 [] rfl ?_
 exact rt hF h
theorem Bg (w0:ab Ψ Φ []) (p0:af) (p1:af) (ph0_0:RSl bR 3 Ψ pG0_0 pv0_0 p0.Pats) (ph0_1:RSl aZ 11 Ψ pG0_1 pv0_1 p0.Conds) (ph0_2:RSl dZ 5 Ψ pG0_2 pv0_2 p0.Acts) (ph1_0:RSl bR 3 Ψ pG1_0 pv1_0 p1.Pats) (ph1_1:RSl aZ 11 Ψ pG1_1 pv1_1 p1.Conds) (ph1_2:RSl dZ 5 Ψ pG1_2 pv1_2 p1.Acts) {r:Bool} (h:n8 N p0 p1=some r) :
  CB w0 prog 88 [.agg [.string p0.Name,iV p0.Sal,pv0_0,pv0_1,pv0_2].toArray,.agg [.string p1.Name,iV p1.Sal,pv1_0,pv1_1,pv1_2].toArray] (.bool r):=by
 refine eN func88 rfl ntmps88 rfl w0 fun hF=>?_
 unfold n8 at h
 refine sr<|lbx rfl fun b_1=>lbx rfl fun b_2=>art 11 [0,32,0,0] rfl ?_
 refine ch h rfl ?_ ?_ <;> intro h
 ·refine att 4 [] rfl ?_
  exact rt hF h
 refine att 10 [1,32,1,0] rfl ?_
 refine ch h rfl ?_ ?_ <;> intro h
 ·refine att 4 [] rfl ?_
  exact rt hF h
 refine atr 8 [2,32,2,0] rfl<|qd h (BJ N · p0.Pats p1.Pats ph0_0 ph1_0 ·) rfl rfl rfl fun x1 h=>la rfl<|en ?_
 refine ch h rfl ?_ ?_ <;> intro h
 ·refine att 4 [] rfl ?_
  exact rt hF h
 refine atr 8 [3,32,3,0] rfl<|qd h (yP N · p0.Conds p1.Conds ph0_1 ph1_1 ·) rfl rfl rfl fun x2 h=>la rfl<|en ?_
 refine ch h rfl ?_ ?_ <;> intro h
 ·refine att 4 [] rfl ?_
  exact rt hF h
 refine atr 8 [4,32,4,0] rfl<|qd h (BE N · p0.Acts p1.Acts ph0_2 ph1_2 ·) rfl rfl rfl fun x3 h=>la rfl<|en ?_
 refine ch h rfl ?_ ?_ <;> intro h
 ·refine att 4 [] rfl ?_
  exact rt hF h
 refine att 5 [] rfl ?_
 exact rt hF h
theorem Af (w0:ab Ψ Φ []) (p0:(List af)) (p1:(List af)) (ph0:RSl bU 5 Ψ pG0 pv0 p0) (ph1:RSl bU 5 Ψ pG1 pv1 p1) {r:Bool} (h:oa N p0 p1=some r) :
  CB w0 prog 43 [pv0,pv1] (.bool r):=by
 refine eN func43 rfl ntmps43 rfl w0 fun hF=>?_
 unfold oa at h
 refine atr 8 [] rfl<|lnr ph0 rfl<|la rfl<|lnr ph1 rfl<|la rfl<|en ?_
 refine ch h rfl ?_ ?_ <;> intro h
 ·refine att 4 [] rfl ?_
  exact rt hF h
 refine att 7 [] rfl ?_
 refine lin (σ:=Int) (fun s=>[(0,pv0),(1,pv1),(5,iV s)]) (fun s=>St w0 Φ [] []) (fun m s=>hP N p0 p1 m s=some r) (0) N h (sx [] []) (fun n1 ih1 s hm=>?_)
 revert hm; revert s; intro s1 hm
 have h:hP N p0 p1 (n1+1) s1=some r:=hm
 show WT _ _ [(0,pv0),(1,pv1),(5,iV s1)] (St w0 Φ [] [])
 unfold hP at h
 refine atr 5 [] rfl<|lnr ph0 rfl<|la rfl<|en ?_
 refine ch h rfl ?_ ?_ <;> intro h
 ·refine att 4 [] rfl<|WT.draw d7 (by kernel_rfl) (fun _ h=>h.drew)<|aqq 2 [] rfl ?_
  obtain ⟨x1,hx1,h⟩:=bs h
  obtain ⟨cs1,F1,-,g1,hb1,hs1,r1⟩:=ph0.el (a7 hx1).2.2
  obtain ⟨v1,G1,v2,G2,v3,G3,rfl,rfl,h1,h2,h3⟩:=r1
  refine qq (aa C6 rfl rfl ph0 hx1) rfl<|qq (aw tS rfl (fun w1 hw=>(g1.of_eq 0 5 rfl rfl:rg _ _ _ [.string x1.Name,iV x1.Sal,v1,v2,v3]).rangeAt hw.in0) rfl) rfl<|aqq 2 [] rfl ?_
  obtain ⟨x2,hx2,h⟩:=bs h
  obtain ⟨cs2,F2,-,g2,hb2,hs2,r2⟩:=ph1.el (a7 hx2).2.2
  obtain ⟨v4,G4,v5,G5,v6,G6,rfl,rfl,h4,h5,h6⟩:=r2
  refine qq (aa C6 rfl rfl ph1 hx2) rfl<|qq (aw tS rfl (fun w1 hw=>(g2.of_eq 0 5 rfl rfl:rg _ _ _ [.string x2.Name,iV x2.Sal,v4,v5,v6]).rangeAt hw.in0) rfl) rfl ?_
  obtain ⟨x3,hx3,h⟩:=bs h
  refine qp (bM LM rfl (fun w1 hw=>Bg N (ba hw.in0) x1 x2 h1 h2 h3 h4 h5 h6 hx3)) rfl<|aqt 2 [] rfl ?_
  refine ch h rfl ?_ ?_ <;> intro h
  ·refine att 4 [] rfl ?_
   exact rt hF h
  refine att 7 [] rfl ?_
  exact lb [] [] (ih1 _ h)
 refine att 5 [] rfl ?_
 exact rt hF h
theorem DE (w0:ab Ψ Φ []) (p0:bl) (p1:bl) (ph0_0:RSl bU 5 Ψ pG0_0 pv0_0 p0.Rules) (ph1_0:RSl bU 5 Ψ pG1_0 pv1_0 p1.Rules) {r:Bool} (h:sE N p0 p1=some r) :
  CB w0 prog 15 [.agg [.string p0.Name,pv0_0].toArray,.agg [.string p1.Name,pv1_0].toArray] (.bool r):=by
 refine eN func15 rfl ntmps15 rfl w0 fun hF=>?_
 unfold sE at h
 refine sr<|lbx rfl fun b_1=>lbx rfl fun b_2=>art 11 [0,32,0,0] rfl ?_
 refine ch h rfl ?_ ?_ <;> intro h
 ·refine att 4 [] rfl ?_
  exact rt hF h
 refine atr 8 [1,32,1,0] rfl<|qd h (Af N · p0.Rules p1.Rules ph0_0 ph1_0 ·) rfl rfl rfl fun x1 h=>la rfl<|en ?_
 refine ch h rfl ?_ ?_ <;> intro h
 ·refine att 4 [] rfl ?_
  exact rt hF h
 refine att 5 [] rfl ?_
 exact rt hF h
theorem ur (w0:ab Ψ Φ []) (p0:(List aE)) (p1:(List aE)) (ph0:RSl av 3 Ψ pG0 pv0 p0) (ph1:RSl av 3 Ψ pG1 pv1 p1) {r:Bool} (h:nG N p0 p1=some r) :
  CB w0 prog 147 [pv0,pv1] (.bool r):=by
 refine eN func147 rfl ntmps147 rfl w0 fun hF=>?_
 unfold nG at h
 refine atr 8 [] rfl<|lnr ph0 rfl<|la rfl<|lnr ph1 rfl<|la rfl<|en ?_
 refine ch h rfl ?_ ?_ <;> intro h
 ·refine att 4 [] rfl ?_
  exact rt hF h
 refine att 7 [] rfl ?_
 refine lin (σ:=Int) (fun s=>[(0,pv0),(1,pv1),(5,iV s)]) (fun s=>St w0 Φ [] []) (fun m s=>jj N p0 p1 m s=some r) (0) N h (sx [] []) (fun n1 ih1 s hm=>?_)
 revert hm; revert s; intro s1 hm
 have h:jj N p0 p1 (n1+1) s1=some r:=hm
 show WT _ _ [(0,pv0),(1,pv1),(5,iV s1)] (St w0 Φ [] [])
 unfold jj at h
 refine atr 5 [] rfl<|lnr ph0 rfl<|la rfl<|en ?_
 refine ch h rfl ?_ ?_ <;> intro h
 ·refine att 4 [] rfl<|WT.draw d7 (by kernel_rfl) (fun _ h=>h.drew)<|aqq 2 [] rfl ?_
  obtain ⟨x1,hx1,h⟩:=bs h
  obtain ⟨cs1,F1,-,g1,hb1,hs1,r1⟩:=ph0.el (a7 hx1).2.2
  obtain ⟨rfl,-⟩:=r1
  refine qq (aa hU rfl rfl ph0 hx1) rfl<|qq (aw kT rfl (fun w1 hw=>(g1.of_eq 0 3 rfl rfl:rg _ _ _ [iV x1.K,iV x1.N,.string x1.S]).rangeAt hw.in0) rfl) rfl<|aqq 2 [] rfl ?_
  obtain ⟨x2,hx2,h⟩:=bs h
  obtain ⟨cs2,F2,-,g2,hb2,hs2,r2⟩:=ph1.el (a7 hx2).2.2
  obtain ⟨rfl,-⟩:=r2
  refine qq (aa hU rfl rfl ph1 hx2) rfl<|qq (aw kT rfl (fun w1 hw=>(g2.of_eq 0 3 rfl rfl:rg _ _ _ [iV x2.K,iV x2.N,.string x2.S]).rangeAt hw.in0) rfl) rfl ?_
  obtain ⟨x3,hx3,h⟩:=bs h
  refine qp (bM IG rfl (fun w1 hw=>vU N (ba hw.fro) x1 x2 hx3)) rfl<|aqt 2 [] rfl ?_
  refine ch h rfl ?_ ?_ <;> intro h
  ·refine att 4 [] rfl ?_
   exact rt hF h
  refine att 7 [] rfl ?_
  exact lb [] [] (ih1 _ h)
 refine att 5 [] rfl ?_
 exact rt hF h
theorem yZ (w0:ab Ψ Φ []) (p0:a8) (p1:a8) (ph0_0:RSl av 3 Ψ pG0_0 pv0_0 p0.Consts) (ph0_1:RSl (RI .i64) 1 Ψ pG0_1 pv0_1 p0.At) (ph1_0:RSl av 3 Ψ pG1_0 pv1_0 p1.Consts) (ph1_1:RSl (RI .i64) 1 Ψ pG1_1 pv1_1 p1.At) {r:Bool} (h:lC N p0 p1=some r) :
  CB w0 prog 89 [.agg [.string p0.Kind,iV p0.N,pv0_0,pv0_1].toArray,.agg [.string p1.Kind,iV p1.N,pv1_0,pv1_1].toArray] (.bool r):=by
 refine eN func89 rfl ntmps89 rfl w0 fun hF=>?_
 unfold lC at h
 refine sr<|lbx rfl fun b_1=>lbx rfl fun b_2=>art 11 [0,32,0,0] rfl ?_
 refine ch h rfl ?_ ?_ <;> intro h
 ·refine att 4 [] rfl ?_
  exact rt hF h
 refine att 10 [1,32,1,0] rfl ?_
 refine ch h rfl ?_ ?_ <;> intro h
 ·refine att 4 [] rfl ?_
  exact rt hF h
 refine atr 8 [2,32,2,0] rfl<|qd h (ur N · p0.Consts p1.Consts ph0_0 ph1_0 ·) rfl rfl rfl fun x1 h=>la rfl<|en ?_
 refine ch h rfl ?_ ?_ <;> intro h
 ·refine att 4 [] rfl ?_
  exact rt hF h
 refine atr 8 [3,32,3,0] rfl<|qd h (iU N · p0.At p1.At ph0_1 ph1_1 ·) rfl rfl rfl fun x2 h=>la rfl<|en ?_
 refine ch h rfl ?_ ?_ <;> intro h
 ·refine att 4 [] rfl ?_
  exact rt hF h
 refine att 5 [] rfl ?_
 exact rt hF h
theorem xA (w0:ab Ψ Φ []) (p0:(List a8)) (p1:(List a8)) (ph0:RSl be 4 Ψ pG0 pv0 p0) (ph1:RSl be 4 Ψ pG1 pv1 p1) {r:Bool} (h:m6 N p0 p1=some r) :
  CB w0 prog 44 [pv0,pv1] (.bool r):=by
 refine eN func44 rfl ntmps44 rfl w0 fun hF=>?_
 unfold m6 at h
 refine atr 8 [] rfl<|lnr ph0 rfl<|la rfl<|lnr ph1 rfl<|la rfl<|en ?_
 refine ch h rfl ?_ ?_ <;> intro h
 ·refine att 4 [] rfl ?_
  exact rt hF h
 refine att 7 [] rfl ?_
 refine lin (σ:=Int) (fun s=>[(0,pv0),(1,pv1),(5,iV s)]) (fun s=>St w0 Φ [] []) (fun m s=>gw N p0 p1 m s=some r) (0) N h (sx [] []) (fun n1 ih1 s hm=>?_)
 revert hm; revert s; intro s1 hm
 have h:gw N p0 p1 (n1+1) s1=some r:=hm
 show WT _ _ [(0,pv0),(1,pv1),(5,iV s1)] (St w0 Φ [] [])
 unfold gw at h
 refine atr 5 [] rfl<|lnr ph0 rfl<|la rfl<|en ?_
 refine ch h rfl ?_ ?_ <;> intro h
 ·refine att 4 [] rfl<|WT.draw d7 (by kernel_rfl) (fun _ h=>h.drew)<|aqq 2 [] rfl ?_
  obtain ⟨x1,hx1,h⟩:=bs h
  obtain ⟨cs1,F1,-,g1,hb1,hs1,r1⟩:=ph0.el (a7 hx1).2.2
  obtain ⟨v1,G1,v2,G2,rfl,rfl,h1,h2⟩:=r1
  refine qq (aa uA rfl rfl ph0 hx1) rfl<|qq (aw qL rfl (fun w1 hw=>(g1.of_eq 0 4 rfl rfl:rg _ _ _ [.string x1.Kind,iV x1.N,v1,v2]).rangeAt hw.in0) rfl) rfl<|aqq 2 [] rfl ?_
  obtain ⟨x2,hx2,h⟩:=bs h
  obtain ⟨cs2,F2,-,g2,hb2,hs2,r2⟩:=ph1.el (a7 hx2).2.2
  obtain ⟨v3,G3,v4,G4,rfl,rfl,h3,h4⟩:=r2
  refine qq (aa uA rfl rfl ph1 hx2) rfl<|qq (aw qL rfl (fun w1 hw=>(g2.of_eq 0 4 rfl rfl:rg _ _ _ [.string x2.Kind,iV x2.N,v3,v4]).rangeAt hw.in0) rfl) rfl ?_
  obtain ⟨x3,hx3,h⟩:=bs h
  refine qp (bM Kh rfl (fun w1 hw=>yZ N (ba hw.in0) x1 x2 h1 h2 h3 h4 hx3)) rfl<|aqt 2 [] rfl ?_
  refine ch h rfl ?_ ?_ <;> intro h
  ·refine att 4 [] rfl ?_
   exact rt hF h
  refine att 7 [] rfl ?_
  exact lb [] [] (ih1 _ h)
 refine att 5 [] rfl ?_
 exact rt hF h
theorem zl (w0:ab Ψ Φ []) (p0:ac) (p1:ac) (ph0_0:RSl (RI .i64) 1 Ψ pG0_0 pv0_0 p0.Pos) (ph0_1:RSl (RI .i64) 1 Ψ pG0_1 pv0_1 p0.Neg) (ph1_0:RSl (RI .i64) 1 Ψ pG1_0 pv1_0 p1.Pos) (ph1_1:RSl (RI .i64) 1 Ψ pG1_1 pv1_1 p1.Neg) {r:Bool} (h:lK N p0 p1=some r) :
  CB w0 prog 90 [.agg [pv0_0,pv0_1].toArray,.agg [pv1_0,pv1_1].toArray] (.bool r):=by
 refine eN func90 rfl ntmps90 rfl w0 fun hF=>?_
 unfold lK at h
 refine sr<|lbx rfl fun b_1=>lbx rfl fun b_2=>arr 9 [0,32,0,0] rfl<|qd h (iU N · p0.Pos p1.Pos ph0_0 ph1_0 ·) rfl rfl rfl fun x1 h=>la rfl<|en ?_
 refine ch h rfl ?_ ?_ <;> intro h
 ·refine att 4 [] rfl ?_
  exact rt hF h
 refine atr 8 [1,32,1,0] rfl<|qd h (iU N · p0.Neg p1.Neg ph0_1 ph1_1 ·) rfl rfl rfl fun x2 h=>la rfl<|en ?_
 refine ch h rfl ?_ ?_ <;> intro h
 ·refine att 4 [] rfl ?_
  exact rt hF h
 refine att 5 [] rfl ?_
 exact rt hF h
theorem xz (w0:ab Ψ Φ []) (p0:(List ac)) (p1:(List ac)) (ph0:RSl bv 2 Ψ pG0 pv0 p0) (ph1:RSl bv 2 Ψ pG1 pv1 p1) {r:Bool} (h:mt N p0 p1=some r) :
  CB w0 prog 45 [pv0,pv1] (.bool r):=by
 refine eN func45 rfl ntmps45 rfl w0 fun hF=>?_
 unfold mt at h
 refine atr 8 [] rfl<|lnr ph0 rfl<|la rfl<|lnr ph1 rfl<|la rfl<|en ?_
 refine ch h rfl ?_ ?_ <;> intro h
 ·refine att 4 [] rfl ?_
  exact rt hF h
 refine att 7 [] rfl ?_
 refine lin (σ:=Int) (fun s=>[(0,pv0),(1,pv1),(5,iV s)]) (fun s=>St w0 Φ [] []) (fun m s=>gr N p0 p1 m s=some r) (0) N h (sx [] []) (fun n1 ih1 s hm=>?_)
 revert hm; revert s; intro s1 hm
 have h:gr N p0 p1 (n1+1) s1=some r:=hm
 show WT _ _ [(0,pv0),(1,pv1),(5,iV s1)] (St w0 Φ [] [])
 unfold gr at h
 refine atr 5 [] rfl<|lnr ph0 rfl<|la rfl<|en ?_
 refine ch h rfl ?_ ?_ <;> intro h
 ·refine att 4 [] rfl<|WT.draw d7 (by kernel_rfl) (fun _ h=>h.drew)<|aqq 2 [] rfl ?_
  obtain ⟨x1,hx1,h⟩:=bs h
  obtain ⟨cs1,F1,-,g1,hb1,hs1,r1⟩:=ph0.el (a7 hx1).2.2
  obtain ⟨v1,G1,v2,G2,rfl,rfl,h1,h2⟩:=r1
  refine qq (aa tq rfl rfl ph0 hx1) rfl<|qq (aw CP rfl (fun w1 hw=>(g1.of_eq 0 2 rfl rfl:rg _ _ _ [v1,v2]).rangeAt hw.in0) rfl) rfl<|aqq 2 [] rfl ?_
  obtain ⟨x2,hx2,h⟩:=bs h
  obtain ⟨cs2,F2,-,g2,hb2,hs2,r2⟩:=ph1.el (a7 hx2).2.2
  obtain ⟨v3,G3,v4,G4,rfl,rfl,h3,h4⟩:=r2
  refine qq (aa tq rfl rfl ph1 hx2) rfl<|qq (aw CP rfl (fun w1 hw=>(g2.of_eq 0 2 rfl rfl:rg _ _ _ [v3,v4]).rangeAt hw.in0) rfl) rfl ?_
  obtain ⟨x3,hx3,h⟩:=bs h
  refine qp (bM Ky rfl (fun w1 hw=>zl N (ba hw.in0) x1 x2 h1 h2 h3 h4 hx3)) rfl<|aqt 2 [] rfl ?_
  refine ch h rfl ?_ ?_ <;> intro h
  ·refine att 4 [] rfl ?_
   exact rt hF h
  refine att 7 [] rfl ?_
  exact lb [] [] (ih1 _ h)
 refine att 5 [] rfl ?_
 exact rt hF h
theorem Dg (w0:ab Ψ Φ []) (p0:bd) (p1:bd) (ph0_0:RSl be 4 Ψ pG0_0 pv0_0 p0.Alphas) (ph0_1:RSl bv 2 Ψ pG0_1 pv0_1 p0.Chains) (ph1_0:RSl be 4 Ψ pG1_0 pv1_0 p1.Alphas) (ph1_1:RSl bv 2 Ψ pG1_1 pv1_1 p1.Chains) {r:Bool} (h:sk N p0 p1=some r) :
  CB w0 prog 16 [.agg [pv0_0,pv0_1].toArray,.agg [pv1_0,pv1_1].toArray] (.bool r):=by
 refine eN func16 rfl ntmps16 rfl w0 fun hF=>?_
 unfold sk at h
 refine sr<|lbx rfl fun b_1=>lbx rfl fun b_2=>arr 9 [0,32,0,0] rfl<|qd h (xA N · p0.Alphas p1.Alphas ph0_0 ph1_0 ·) rfl rfl rfl fun x1 h=>la rfl<|en ?_
 refine ch h rfl ?_ ?_ <;> intro h
 ·refine att 4 [] rfl ?_
  exact rt hF h
 refine atr 8 [1,32,1,0] rfl<|qd h (xz N · p0.Chains p1.Chains ph0_1 ph1_1 ·) rfl rfl rfl fun x2 h=>la rfl<|en ?_
 refine ch h rfl ?_ ?_ <;> intro h
 ·refine att 4 [] rfl ?_
  exact rt hF h
 refine att 5 [] rfl ?_
 exact rt hF h
theorem Be (w0:ab Ψ Φ []) (p0:aA) (p1:aA) (ph0_0:RSl av 3 Ψ pG0_0 pv0_0 p0.Fields) (ph1_0:RSl av 3 Ψ pG1_0 pv1_0 p1.Fields) {r:Bool} (h:qi N p0 p1=some r) :
  CB w0 prog 148 [.agg [.string p0.Kind,pv0_0].toArray,.agg [.string p1.Kind,pv1_0].toArray] (.bool r):=by
 refine eN func148 rfl ntmps148 rfl w0 fun hF=>?_
 unfold qi at h
 refine sr<|lbx rfl fun b_1=>lbx rfl fun b_2=>art 11 [0,32,0,0] rfl ?_
 refine ch h rfl ?_ ?_ <;> intro h
 ·refine att 4 [] rfl ?_
  exact rt hF h
 refine atr 8 [1,32,1,0] rfl<|qd h (ur N · p0.Fields p1.Fields ph0_0 ph1_0 ·) rfl rfl rfl fun x1 h=>la rfl<|en ?_
 refine ch h rfl ?_ ?_ <;> intro h
 ·refine att 4 [] rfl ?_
  exact rt hF h
 refine att 5 [] rfl ?_
 exact rt hF h
theorem Br (w0:ab Ψ Φ []) (p0:aY) (p1:aY) (ph0_0:RSl av 3 Ψ pG0_0 pv0_0 p0.F.Fields) (ph1_0:RSl av 3 Ψ pG1_0 pv1_0 p1.F.Fields) {r:Bool} (h:ny N p0 p1=some r) :
  CB w0 prog 91 [.agg [iV p0.Id,.string p0.F.Kind,pv0_0].toArray,.agg [iV p1.Id,.string p1.F.Kind,pv1_0].toArray] (.bool r):=by
 refine eN func91 rfl ntmps91 rfl w0 fun hF=>?_
 unfold ny at h
 refine sr<|lbx rfl fun b_1=>lbx rfl fun b_2=>art 11 [0,32,0,0] rfl ?_
 refine ch h rfl ?_ ?_ <;> intro h
 ·refine att 4 [] rfl ?_
  exact rt hF h
 refine atr 8 [1,34,1,2] rfl<|qd h (Be N · p0.F p1.F ph0_0 ph1_0 ·) rfl rfl rfl fun x1 h=>la rfl<|en ?_
 refine ch h rfl ?_ ?_ <;> intro h
 ·refine att 4 [] rfl ?_
  exact rt hF h
 refine att 5 [] rfl ?_
 exact rt hF h
theorem zG (w0:ab Ψ Φ []) (p0:(List aY)) (p1:(List aY)) (ph0:RSl bN 3 Ψ pG0 pv0 p0) (ph1:RSl bN 3 Ψ pG1 pv1 p1) {r:Bool} (h:oE N p0 p1=some r) :
  CB w0 prog 46 [pv0,pv1] (.bool r):=by
 refine eN func46 rfl ntmps46 rfl w0 fun hF=>?_
 unfold oE at h
 refine atr 8 [] rfl<|lnr ph0 rfl<|la rfl<|lnr ph1 rfl<|la rfl<|en ?_
 refine ch h rfl ?_ ?_ <;> intro h
 ·refine att 4 [] rfl ?_
  exact rt hF h
 refine att 7 [] rfl ?_
 refine lin (σ:=Int) (fun s=>[(0,pv0),(1,pv1),(5,iV s)]) (fun s=>St w0 Φ [] []) (fun m s=>gV N p0 p1 m s=some r) (0) N h (sx [] []) (fun n1 ih1 s hm=>?_)
 revert hm; revert s; intro s1 hm
 have h:gV N p0 p1 (n1+1) s1=some r:=hm
 show WT _ _ [(0,pv0),(1,pv1),(5,iV s1)] (St w0 Φ [] [])
 unfold gV at h
 refine atr 5 [] rfl<|lnr ph0 rfl<|la rfl<|en ?_
 refine ch h rfl ?_ ?_ <;> intro h
 ·refine att 4 [] rfl<|WT.draw d7 (by kernel_rfl) (fun _ h=>h.drew)<|aqq 2 [] rfl ?_
  obtain ⟨x1,hx1,h⟩:=bs h
  obtain ⟨cs1,F1,-,g1,hb1,hs1,r1⟩:=ph0.el (a7 hx1).2.2
  obtain ⟨v1,G1,rfl,hq1,h1⟩:=r1
  obtain rfl:=hq1.symm
  refine qq (aa zq rfl rfl ph0 hx1) rfl<|qq (aw Fu rfl (fun w1 hw=>(g1.of_eq 0 3 rfl rfl:rg _ _ _ [iV x1.Id,.string x1.F.Kind,v1]).rangeAt hw.in0) rfl) rfl<|aqq 2 [] rfl ?_
  obtain ⟨x2,hx2,h⟩:=bs h
  obtain ⟨cs2,F2,-,g2,hb2,hs2,r2⟩:=ph1.el (a7 hx2).2.2
  obtain ⟨v2,G2,rfl,hq2,h2⟩:=r2
  obtain rfl:=hq2.symm
  refine qq (aa zq rfl rfl ph1 hx2) rfl<|qq (aw Fu rfl (fun w1 hw=>(g2.of_eq 0 3 rfl rfl:rg _ _ _ [iV x2.Id,.string x2.F.Kind,v2]).rangeAt hw.in0) rfl) rfl ?_
  obtain ⟨x3,hx3,h⟩:=bs h
  refine qp (bM M0 rfl (fun w1 hw=>Br N (ba hw.in0) x1 x2 h1 h2 hx3)) rfl<|aqt 2 [] rfl ?_
  refine ch h rfl ?_ ?_ <;> intro h
  ·refine att 4 [] rfl ?_
   exact rt hF h
  refine att 7 [] rfl ?_
  exact lb [] [] (ih1 _ h)
 refine att 5 [] rfl ?_
 exact rt hF h
theorem zJ (w0:ab Ψ Φ []) (p0:ah) (p1:ah) (ph0_0:RSl bN 3 Ψ pG0_0 pv0_0 p0.Items) (ph1_0:RSl bN 3 Ψ pG1_0 pv1_0 p1.Items) {r:Bool} (h:o8 N p0 p1=some r) :
  CB w0 prog 17 [.agg [pv0_0,iV p0.Next].toArray,.agg [pv1_0,iV p1.Next].toArray] (.bool r):=by
 refine eN func17 rfl ntmps17 rfl w0 fun hF=>?_
 unfold o8 at h
 refine sr<|lbx rfl fun b_1=>lbx rfl fun b_2=>arr 9 [0,32,0,0] rfl<|qd h (zG N · p0.Items p1.Items ph0_0 ph1_0 ·) rfl rfl rfl fun x1 h=>la rfl<|en ?_
 refine ch h rfl ?_ ?_ <;> intro h
 ·refine att 4 [] rfl ?_
  exact rt hF h
 refine att 10 [1,32,1,0] rfl ?_
 refine ch h rfl ?_ ?_ <;> intro h
 ·refine att 4 [] rfl ?_
  exact rt hF h
 refine att 5 [] rfl ?_
 exact rt hF h
theorem bc  (w0:ab Ψ Φ []) (p0:Int)  {r:ByteArray} (h:aj N p0=some r) :
  CB w0 prog 92 [iV p0] (.string r):=by
 refine eN func92 rfl ntmps92 rfl w0 fun hF=>?_
 unfold aj at h
 refine att 10 [] rfl ?_
 refine ch h rfl ?_ ?_ <;> intro h
 ·refine att 4 [] rfl ?_
  exact rt hF h
 refine att 7 [] rfl ?_
 refine lin (σ:=Hp × Int × ByteArray) (fun s=>[(0,iV s.2.1),(3,.string s.2.2)]) (fun s=>St w0 s.1 [] []) (fun m s=>fg N m s.2.1 s.2.2=some r) (Φ,p0,(⟨#[]⟩:ByteArray)) N h (sx [] []) (fun n1 ih1 s hm=>?_)
 obtain ⟨Φ_1,s1,s2⟩:=s
 have h:fg N (n1+1) s1 s2=some r:=hm
 show WT _ _ [(0,iV s1),(3,.string s2)] (St w0 Φ_1 [] [])
 unfold fg at h
 refine att 6 [] rfl ?_
 refine ch h rfl ?_ ?_ <;> intro h
 ·refine atr 5 [] rfl<|lq (JP rfl rfl (by decide)) rfl<|la rfl<|lq (vv Ix Ho rfl) rfl ?_
  have rc1:RC (RI .u8) 1 Φ_1 ([[]]:List (List Nat)) [.int .u8 (IntKind.u8.wrap (wz (48+(s1.tmod 10))))] ([(IntKind.u8.wrap (wz (48+(s1.tmod 10))))]:List Int):=RC.cons (c:=[.int .u8 (IntKind.u8.wrap (wz (48+(s1.tmod 10))))]) (cells:=[]) ⟨rfl,rfl⟩ rfl (RC.nil _ _ _)
  refine le' (ed (vs:=[(0,.int .u8 (IntKind.u8.wrap (wz (48+(s1.tmod 10)))))]) (C:=#[.int .u8 (IntKind.u8.wrap (wz (48+(s1.tmod 10))))]) RI.lasts HA Nx rfl rfl rfl rfl (aV LZ (ag (C':=[.int .u8 (IntKind.u8.wrap (wz (48+(s1.tmod 10))))]) rfl rfl rfl rfl rfl (aq))) rfl rc1 rfl (by simpa using Kw.nil)) rfl ?_
  rintro v1 Φ_2 D1 ⟨fr1,h1⟩
  replace h1:OSl (RI .u8) 5 1 Φ_2 [] v1 ([(IntKind.u8.wrap (wz (48+(s1.tmod 10))))]:List Int):=by simpa using h1
  refine lq (Iq0 HA Ho fw rfl (fun w1 hw=>h1.rsl)) rfl<|la rfl ?_
  obtain ⟨z1,hz1,h⟩:=bs h
  refine lq (K4 rfl rfl hz1) rfl<|arr 4 [] rfl<|lq (MS rfl rfl (by decide)) rfl<|art 3 [] rfl ?_
  exact lb [] [] (ih1 (_,_,_) h)
 refine atr 4 [] rfl ?_
 obtain ⟨z2,hz2,h⟩:=bs h
 refine lq (K4 rfl rfl hz2) rfl<|la rfl<|en ?_
 exact rt hF h
theorem xy (w0:ab Ψ Φ [ob pv0].flatten) (p0:(List aW)) (p1:Int) (ph0:OSl bO 227 5 Φ [] pv0 p0) {r:Int × (List aW)} (h:pb N p0 p1=some r) :
  Calls prog 149 [pv0,iV p1].toArray w0.w (aL Φ w0.w [ob pv0].flatten (fun Φ' Fs v=>v=iV r.1∧Fs=[ob pv0]∧OSl bO 227 5 Φ' [] pv0 r.2)):=by
 refine eL func149 rfl ntmps149 rfl (L:=[ob pv0]) w0 (fun hF=>?_)
 unfold pb at h
 refine att 10 [] rfl ?_
 refine lin (σ:=Hp × (List aW) × Int × Int) (fun s=>[(0,pv0),(1,iV s.2.2.1),(5,iV s.2.2.2)]) (fun s=>St w0 s.1 [] [ob pv0]) (fun m s=>fu N m s.2.1 s.2.2.1 s.2.2.2=some r∧(OSl bO 227 5 s.1 [] pv0 s.2.1)) (Φ,p0,p1,0) N ⟨h,ph0⟩ (sx [0] []) (fun n1 ih1 s hm=>?_)
 obtain ⟨Φ_1,s1,s2,s3⟩:=s
 obtain ⟨h,k1⟩:=hm
 dsimp only at h k1 ⊢
 unfold fu at h
 refine atr 5 [] rfl<|lno k1 rfl<|la rfl<|en ?_
 refine ch h rfl ?_ ?_ <;> intro h
 ·refine atr 8 [] rfl ?_
  obtain ⟨x1,hx1,h⟩:=bs h
  obtain ⟨cs1,F1,h1,r1⟩:=k1.focusF bO.flat hx1
  obtain ⟨rfl,-⟩:=r1
  refine lih h1 hx1 rfl<|lf wn rfl rfl rfl<|lu (us [0] [] 0 bO.lasts iE rfl rfl rfl rfl h1 rfl (fun ap=>dN)) rfl ?_
  rintro Φ_2 D2 ⟨⟨ap1,fr1⟩,h2⟩
  refine arr 12 [] rfl<|qc h (bc N · (wz (s2+1)) ·) rfl rfl rfl fun x2 h=>lih h2 hx1 rfl<|lf wI rfl rfl rfl<|lu (us [0] [] 1 bO.lasts mT rfl rfl rfl rfl h2 rfl (fun ap=>dN)) rfl ?_
  rintro Φ_3 D3 ⟨⟨ap2,fr2⟩,h3⟩
  refine arr 12 [] rfl<|lih h3 hx1 rfl<|arr 2 [2,0] rfl<|lu (us [0] [] 2 bO.lasts iE rfl rfl rfl rfl h3 rfl (fun ap=>dN)) rfl ?_
  rintro Φ_4 D4 ⟨⟨ap3,fr3⟩,h4⟩
  refine arr 12 [] rfl<|lih h4 hx1 rfl<|arr 2 [2,1] rfl<|lu (us [0] [] 3 bO.lasts iE rfl rfl rfl rfl h4 rfl (fun ap=>dN)) rfl ?_
  rintro Φ_5 D5 ⟨⟨ap4,fr4⟩,h5⟩
  refine arr 12 [] rfl<|qc h (bc N · (wz ((wz ((wz ((wz (s2+1))+1))+1))+1)) ·) rfl rfl rfl fun x3 h=>lih h5 hx1 rfl<|arr 2 [2,2] rfl<|lu (us [0] [] 4 bO.lasts mT rfl rfl rfl rfl h5 rfl (fun ap=>dN)) rfl ?_
  rintro Φ_6 D6 ⟨⟨ap5,fr5⟩,h6⟩
  refine art 12 [] rfl ?_
  have h7:=h6.unfocusF bO.flat (x':=(⟨s2,x2,(⟨wz ((wz (s2+1))+1),wz ((wz ((wz (s2+1))+1))+1),x3⟩:aE)⟩:aW)) ⟨rfl,rfl⟩
  exact lb [0] [] (ih1 (_,_,_,_) ⟨h,h7⟩)
 refine att 6 [] rfl ?_
 exact rtg [0] hF (ao.one rfl) rfl (by cases h; exact fun w1 hw=>⟨rfl,rfl,k1⟩)
theorem xn (w0:ab Ψ Φ [ob pv0,pD0].flatten) (p0:(List ax)) (p1:Int) (ph0:OSl f7 214 3 Φ pD0 pv0 p0) {r:Int × (List ax)} (h:oX N p0 p1=some r) :
  Calls prog 93 [pv0,iV p1].toArray w0.w (aL Φ w0.w [ob pv0,pD0].flatten (fun Φ' Fs v=>∃ (Do_0_0:List Nat),v=iV r.1∧Fs=[ob pv0,Do_0_0]∧OSl f7 214 3 Φ' Do_0_0 pv0 r.2)):=by
 refine eL func93 rfl ntmps93 rfl (L:=[ob pv0,pD0]) w0 (fun hF=>?_)
 unfold oX at h
 refine att 10 [] rfl ?_
 refine lin (σ:=Hp × (List ax) × List Nat × Int × Int) (fun s=>[(0,pv0),(1,iV s.2.2.2.1),(5,iV s.2.2.2.2)]) (fun s=>St w0 s.1 [] [ob pv0,s.2.2.1]) (fun m s=>fe N m s.2.1 s.2.2.2.1 s.2.2.2.2=some r∧(OSl f7 214 3 s.1 s.2.2.1 pv0 s.2.1)) (Φ,p0,pD0,p1,0) N ⟨h,ph0⟩ (sx [0,0] []) (fun n1 ih1 s hm=>?_)
 obtain ⟨Φ_1,s1,D1,s2,s3⟩:=s
 obtain ⟨h,k1⟩:=hm
 dsimp only at h k1 ⊢
 unfold fe at h
 refine atr 5 [] rfl<|lno k1 rfl<|la rfl<|en ?_
 refine ch h rfl ?_ ?_ <;> intro h
 ·refine atr 8 [] rfl<|qc h (bc N · s2 ·) rfl rfl rfl fun x1 h=>?_
  obtain ⟨x2,hx2,h⟩:=bs h
  obtain ⟨cs1,F1,D2,h1,r1,kf1,sp1⟩:=k1.focus hx2
  obtain ⟨v1,rfl,rfl,h2⟩:=r1
  refine wlL [ob v1,D2,ob pv0] (sre [1] [ob v1,D2] rfl (by simpa [List.append_assoc] using sp1))<|lih h1 hx2 rfl<|lf GX rfl rfl rfl<|lu (us [2] [ob v1,D2] 0 f7.lasts mT rfl rfl rfl rfl h1 rfl (fun ap=>ap.q 1 rfl)) rfl ?_
  rintro Φ_2 D3 ⟨⟨ap1,fr1⟩,h3⟩
  replace h2:=h2.fr fr1 (ap1.q 0 rfl) dN
  refine arr 11 [] rfl<|lih h3 hx2 rfl<|lf Cg rfl rfl rfl<|lgx 1 0 h3.rg rfl<|la rfl<|kcb [1] h rfl rfl rfl rfl (fun b ap z q=>xy N b x2.Args (wz (s2+1)) h2 q) ?_
  rintro x3 h v2 Φ_3 F2 ⟨ap2,fr2,rfl,rfl,h4⟩
  replace h3:=h3.fr fr2 (ap2.q 0 rfl) (ap2.q 1 rfl)
  refine arr 7 [] rfl<|lq (JP rfl rfl (by decide)) rfl<|la rfl<|lih h3 hx2 rfl<|lf lr rfl rfl rfl<|lu (us [1] [ob v1,D2] 2 f7.lasts Mu rfl rfl rfl rfl h3 rfl (fun ap=>ap.q 1 rfl)) rfl ?_
  rintro Φ_4 D4 ⟨⟨ap3,fr3⟩,h5⟩
  replace h4:=h4.fr fr3 (ap3.q 0 rfl) dN
  refine art 12 [] rfl ?_
  have r2:f7 Φ_4 _ [.string x1,v1,.bool (decide ((x3.1.tmod 3)=0))] (⟨x1,x3.2,decide ((x3.1.tmod 3)=0)⟩:ax):=⟨v1,rfl,rfl,h4⟩
  obtain ⟨D5,h6,sp2⟩:=h5.unfocus r2 (f7.knows _ _ _ _ r2)
  refine wtL [D5,ob pv0] (smg [1,1] rfl (by simpa [List.append_assoc,bm] using sp2)) ?_
  exact lb [1,0] [] (ih1 (_,_,_,_,_) ⟨h,h6⟩)
 refine att 6 [] rfl ?_
 exact rtg [0,0] hF (ao.one rfl) rfl (by cases h; exact fun w1 hw=>⟨D1,rfl,rfl,k1⟩)
theorem wj (w0:ab Ψ Φ [ob pv0].flatten) (p0:(List bj)) (p1:Int) (ph0:OSl aZ 229 11 Φ [] pv0 p0) {r:Int × (List bj)} (h:nS N p0 p1=some r) :
  Calls prog 94 [pv0,iV p1].toArray w0.w (aL Φ w0.w [ob pv0].flatten (fun Φ' Fs v=>v=iV r.1∧Fs=[ob pv0]∧OSl aZ 229 11 Φ' [] pv0 r.2)):=by
 refine eL func94 rfl ntmps94 rfl (L:=[ob pv0]) w0 (fun hF=>?_)
 unfold nS at h
 refine att 10 [] rfl ?_
 refine lin (σ:=Hp × (List bj) × Int × Int) (fun s=>[(0,pv0),(1,iV s.2.2.1),(5,iV s.2.2.2)]) (fun s=>St w0 s.1 [] [ob pv0]) (fun m s=>ei N m s.2.1 s.2.2.1 s.2.2.2=some r∧(OSl aZ 229 11 s.1 [] pv0 s.2.1)) (Φ,p0,p1,0) N ⟨h,ph0⟩ (sx [0] []) (fun n1 ih1 s hm=>?_)
 obtain ⟨Φ_1,s1,s2,s3⟩:=s
 obtain ⟨h,k1⟩:=hm
 dsimp only at h k1 ⊢
 unfold ei at h
 refine atr 5 [] rfl<|lno k1 rfl<|la rfl<|en ?_
 refine ch h rfl ?_ ?_ <;> intro h
 ·refine atr 8 [] rfl ?_
  obtain ⟨x1,hx1,h⟩:=bs h
  obtain ⟨cs1,F1,h1,r1⟩:=k1.focusF aZ.flat hx1
  obtain ⟨rfl,-⟩:=r1
  refine lih h1 hx1 rfl<|lf He rfl rfl rfl<|lu (us [0] [] 0 aZ.lasts iE rfl rfl rfl rfl h1 rfl (fun ap=>dN)) rfl ?_
  rintro Φ_2 D2 ⟨⟨ap1,fr1⟩,h2⟩
  refine arr 12 [] rfl<|lih h2 hx1 rfl<|arr 2 [1,0] rfl<|lu (us [0] [] 1 aZ.lasts iE rfl rfl rfl rfl h2 rfl (fun ap=>dN)) rfl ?_
  rintro Φ_3 D3 ⟨⟨ap2,fr2⟩,h3⟩
  refine arr 12 [] rfl<|qc h (bc N · (wz ((wz (s2+1))+1)) ·) rfl rfl rfl fun x2 h=>lih h3 hx1 rfl<|arr 2 [1,1] rfl<|lu (us [0] [] 2 aZ.lasts mT rfl rfl rfl rfl h3 rfl (fun ap=>dN)) rfl ?_
  rintro Φ_4 D4 ⟨⟨ap3,fr3⟩,h4⟩
  refine arr 12 [] rfl<|lih h4 hx1 rfl<|arr 3 [1,2,0] rfl<|lu (us [0] [] 3 aZ.lasts iE rfl rfl rfl rfl h4 rfl (fun ap=>dN)) rfl ?_
  rintro Φ_5 D5 ⟨⟨ap4,fr4⟩,h5⟩
  refine arr 12 [] rfl<|lih h5 hx1 rfl<|arr 3 [1,2,1] rfl<|lu (us [0] [] 4 aZ.lasts iE rfl rfl rfl rfl h5 rfl (fun ap=>dN)) rfl ?_
  rintro Φ_6 D6 ⟨⟨ap5,fr5⟩,h6⟩
  refine arr 12 [] rfl<|qc h (bc N · (wz ((wz ((wz ((wz ((wz (s2+1))+1))+1))+1))+1)) ·) rfl rfl rfl fun x3 h=>lih h6 hx1 rfl<|arr 3 [1,2,2] rfl<|lu (us [0] [] 5 aZ.lasts mT rfl rfl rfl rfl h6 rfl (fun ap=>dN)) rfl ?_
  rintro Φ_7 D7 ⟨⟨ap6,fr6⟩,h7⟩
  refine arr 12 [] rfl<|lih h7 hx1 rfl<|arr 2 [6,0] rfl<|lu (us [0] [] 6 aZ.lasts iE rfl rfl rfl rfl h7 rfl (fun ap=>dN)) rfl ?_
  rintro Φ_8 D8 ⟨⟨ap7,fr7⟩,h8⟩
  refine arr 12 [] rfl<|qc h (bc N · (wz ((wz ((wz ((wz ((wz ((wz ((wz (s2+1))+1))+1))+1))+1))+1))+1)) ·) rfl rfl rfl fun x4 h=>lih h8 hx1 rfl<|arr 2 [6,1] rfl<|lu (us [0] [] 7 aZ.lasts mT rfl rfl rfl rfl h8 rfl (fun ap=>dN)) rfl ?_
  rintro Φ_9 D9 ⟨⟨ap8,fr8⟩,h9⟩
  refine arr 12 [] rfl<|lih h9 hx1 rfl<|arr 3 [6,2,0] rfl<|lu (us [0] [] 8 aZ.lasts iE rfl rfl rfl rfl h9 rfl (fun ap=>dN)) rfl ?_
  rintro Φ_10 D10 ⟨⟨ap9,fr9⟩,h10⟩
  refine arr 12 [] rfl<|lih h10 hx1 rfl<|arr 3 [6,2,1] rfl<|lu (us [0] [] 9 aZ.lasts iE rfl rfl rfl rfl h10 rfl (fun ap=>dN)) rfl ?_
  rintro Φ_11 D11 ⟨⟨ap10,fr10⟩,h11⟩
  refine arr 12 [] rfl<|qc h (bc N · (wz ((wz ((wz ((wz ((wz ((wz ((wz ((wz ((wz ((wz (s2+1))+1))+1))+1))+1))+1))+1))+1))+1))+1)) ·) rfl rfl rfl fun x5 h=>lih h11 hx1 rfl<|arr 3 [6,2,2] rfl<|lu (us [0] [] 10 aZ.lasts mT rfl rfl rfl rfl h11 rfl (fun ap=>dN)) rfl ?_
  rintro Φ_12 D12 ⟨⟨ap11,fr11⟩,h12⟩
  refine art 12 [] rfl ?_
  have h13:=h12.unfocusF aZ.flat (x':=(⟨s2,(⟨wz (s2+1),x2,(⟨wz ((wz ((wz (s2+1))+1))+1),wz ((wz ((wz ((wz (s2+1))+1))+1))+1),x3⟩:aE)⟩:aW),(⟨wz ((wz ((wz ((wz ((wz ((wz (s2+1))+1))+1))+1))+1))+1),x4,(⟨wz ((wz ((wz ((wz ((wz ((wz ((wz ((wz (s2+1))+1))+1))+1))+1))+1))+1))+1),wz ((wz ((wz ((wz ((wz ((wz ((wz ((wz ((wz (s2+1))+1))+1))+1))+1))+1))+1))+1))+1),x5⟩:aE)⟩:aW)⟩:bj)) ⟨rfl,rfl⟩
  exact lb [0] [] (ih1 (_,_,_,_) ⟨h,h13⟩)
 refine att 6 [] rfl ?_
 exact rtg [0] hF (ao.one rfl) rfl (by cases h; exact fun w1 hw=>⟨rfl,rfl,k1⟩)
theorem wT (w0:ab Ψ Φ [ob pv0].flatten) (p0:(List bh)) (p1:Int) (ph0:OSl bq 280 11 Φ [] pv0 p0) {r:Int × (List bh)} (h:nJ N p0 p1=some r) :
  Calls prog 150 [pv0,iV p1].toArray w0.w (aL Φ w0.w [ob pv0].flatten (fun Φ' Fs v=>v=iV r.1∧Fs=[ob pv0]∧OSl bq 280 11 Φ' [] pv0 r.2)):=by
 refine eL func150 rfl ntmps150 rfl (L:=[ob pv0]) w0 (fun hF=>?_)
 unfold nJ at h
 refine att 10 [] rfl ?_
 refine lin (σ:=Hp × (List bh) × Int × Int) (fun s=>[(0,pv0),(1,iV s.2.2.1),(5,iV s.2.2.2)]) (fun s=>St w0 s.1 [] [ob pv0]) (fun m s=>ej N m s.2.1 s.2.2.1 s.2.2.2=some r∧(OSl bq 280 11 s.1 [] pv0 s.2.1)) (Φ,p0,p1,0) N ⟨h,ph0⟩ (sx [0] []) (fun n1 ih1 s hm=>?_)
 obtain ⟨Φ_1,s1,s2,s3⟩:=s
 obtain ⟨h,k1⟩:=hm
 dsimp only at h k1 ⊢
 unfold ej at h
 refine atr 5 [] rfl<|lno k1 rfl<|la rfl<|en ?_
 refine ch h rfl ?_ ?_ <;> intro h
 ·refine atr 8 [] rfl<|qc h (bc N · s2 ·) rfl rfl rfl fun x1 h=>?_
  obtain ⟨x2,hx2,h⟩:=bs h
  obtain ⟨cs1,F1,h1,r1⟩:=k1.focusF bq.flat hx2
  obtain ⟨rfl,-⟩:=r1
  refine lih h1 hx2 rfl<|lf H6 rfl rfl rfl<|lu (us [0] [] 0 bq.lasts mT rfl rfl rfl rfl h1 rfl (fun ap=>dN)) rfl ?_
  rintro Φ_2 D2 ⟨⟨ap1,fr1⟩,h2⟩
  refine arr 12 [] rfl<|lih h2 hx2 rfl<|arr 2 [1,0] rfl<|lu (us [0] [] 1 bq.lasts iE rfl rfl rfl rfl h2 rfl (fun ap=>dN)) rfl ?_
  rintro Φ_3 D3 ⟨⟨ap2,fr2⟩,h3⟩
  refine arr 12 [] rfl<|qc h (bc N · (wz ((wz (s2+1))+1)) ·) rfl rfl rfl fun x3 h=>lih h3 hx2 rfl<|arr 2 [1,1] rfl<|lu (us [0] [] 2 bq.lasts mT rfl rfl rfl rfl h3 rfl (fun ap=>dN)) rfl ?_
  rintro Φ_4 D4 ⟨⟨ap3,fr3⟩,h4⟩
  refine arr 12 [] rfl<|lih h4 hx2 rfl<|arr 3 [1,2,0] rfl<|lu (us [0] [] 3 bq.lasts iE rfl rfl rfl rfl h4 rfl (fun ap=>dN)) rfl ?_
  rintro Φ_5 D5 ⟨⟨ap4,fr4⟩,h5⟩
  refine arr 12 [] rfl<|lih h5 hx2 rfl<|arr 3 [1,2,1] rfl<|lu (us [0] [] 4 bq.lasts iE rfl rfl rfl rfl h5 rfl (fun ap=>dN)) rfl ?_
  rintro Φ_6 D6 ⟨⟨ap5,fr5⟩,h6⟩
  refine arr 12 [] rfl<|qc h (bc N · (wz ((wz ((wz ((wz ((wz (s2+1))+1))+1))+1))+1)) ·) rfl rfl rfl fun x4 h=>lih h6 hx2 rfl<|arr 3 [1,2,2] rfl<|lu (us [0] [] 5 bq.lasts mT rfl rfl rfl rfl h6 rfl (fun ap=>dN)) rfl ?_
  rintro Φ_7 D7 ⟨⟨ap6,fr6⟩,h7⟩
  refine arr 12 [] rfl<|lih h7 hx2 rfl<|arr 2 [6,0] rfl<|lu (us [0] [] 6 bq.lasts iE rfl rfl rfl rfl h7 rfl (fun ap=>dN)) rfl ?_
  rintro Φ_8 D8 ⟨⟨ap7,fr7⟩,h8⟩
  refine arr 12 [] rfl<|qc h (bc N · (wz ((wz ((wz ((wz ((wz ((wz ((wz (s2+1))+1))+1))+1))+1))+1))+1)) ·) rfl rfl rfl fun x5 h=>lih h8 hx2 rfl<|arr 2 [6,1] rfl<|lu (us [0] [] 7 bq.lasts mT rfl rfl rfl rfl h8 rfl (fun ap=>dN)) rfl ?_
  rintro Φ_9 D9 ⟨⟨ap8,fr8⟩,h9⟩
  refine arr 12 [] rfl<|lih h9 hx2 rfl<|arr 3 [6,2,0] rfl<|lu (us [0] [] 8 bq.lasts iE rfl rfl rfl rfl h9 rfl (fun ap=>dN)) rfl ?_
  rintro Φ_10 D10 ⟨⟨ap9,fr9⟩,h10⟩
  refine arr 12 [] rfl<|lih h10 hx2 rfl<|arr 3 [6,2,1] rfl<|lu (us [0] [] 9 bq.lasts iE rfl rfl rfl rfl h10 rfl (fun ap=>dN)) rfl ?_
  rintro Φ_11 D11 ⟨⟨ap10,fr10⟩,h11⟩
  refine arr 12 [] rfl<|qc h (bc N · (wz ((wz ((wz ((wz ((wz ((wz ((wz ((wz ((wz ((wz (s2+1))+1))+1))+1))+1))+1))+1))+1))+1))+1)) ·) rfl rfl rfl fun x6 h=>lih h11 hx2 rfl<|arr 3 [6,2,2] rfl<|lu (us [0] [] 10 bq.lasts mT rfl rfl rfl rfl h11 rfl (fun ap=>dN)) rfl ?_
  rintro Φ_12 D12 ⟨⟨ap11,fr11⟩,h12⟩
  refine art 12 [] rfl ?_
  have h13:=h12.unfocusF bq.flat (x':=(⟨x1,(⟨wz (s2+1),x3,(⟨wz ((wz ((wz (s2+1))+1))+1),wz ((wz ((wz ((wz (s2+1))+1))+1))+1),x4⟩:aE)⟩:aW),(⟨wz ((wz ((wz ((wz ((wz ((wz (s2+1))+1))+1))+1))+1))+1),x5,(⟨wz ((wz ((wz ((wz ((wz ((wz ((wz ((wz (s2+1))+1))+1))+1))+1))+1))+1))+1),wz ((wz ((wz ((wz ((wz ((wz ((wz ((wz ((wz (s2+1))+1))+1))+1))+1))+1))+1))+1))+1),x6⟩:aE)⟩:aW)⟩:bh)) ⟨rfl,rfl⟩
  exact lb [0] [] (ih1 (_,_,_,_) ⟨h,h13⟩)
 refine att 6 [] rfl ?_
 exact rtg [0] hF (ao.one rfl) rfl (by cases h; exact fun w1 hw=>⟨rfl,rfl,k1⟩)
theorem xl (w0:ab Ψ Φ [ob pv0,pD0].flatten) (p0:(List bH)) (p1:Int) (ph0:OSl gi 232 5 Φ pD0 pv0 p0) {r:Int × (List bH)} (h:oZ N p0 p1=some r) :
  Calls prog 95 [pv0,iV p1].toArray w0.w (aL Φ w0.w [ob pv0,pD0].flatten (fun Φ' Fs v=>∃ (Do_0_0:List Nat),v=iV r.1∧Fs=[ob pv0,Do_0_0]∧OSl gi 232 5 Φ' Do_0_0 pv0 r.2)):=by
 refine eL func95 rfl ntmps95 rfl (L:=[ob pv0,pD0]) w0 (fun hF=>?_)
 unfold oZ at h
 refine att 10 [] rfl ?_
 refine lin (σ:=Hp × (List bH) × List Nat × Int × Int) (fun s=>[(0,pv0),(1,iV s.2.2.2.1),(5,iV s.2.2.2.2)]) (fun s=>St w0 s.1 [] [ob pv0,s.2.2.1]) (fun m s=>fb N m s.2.1 s.2.2.2.1 s.2.2.2.2=some r∧(OSl gi 232 5 s.1 s.2.2.1 pv0 s.2.1)) (Φ,p0,pD0,p1,0) N ⟨h,ph0⟩ (sx [0,0] []) (fun n1 ih1 s hm=>?_)
 obtain ⟨Φ_1,s1,D1,s2,s3⟩:=s
 obtain ⟨h,k1⟩:=hm
 dsimp only at h k1 ⊢
 unfold fb at h
 refine atr 5 [] rfl<|lno k1 rfl<|la rfl<|en ?_
 refine ch h rfl ?_ ?_ <;> intro h
 ·refine atr 8 [] rfl ?_
  obtain ⟨x1,hx1,h⟩:=bs h
  obtain ⟨cs1,F1,D2,h1,r1,kf1,sp1⟩:=k1.focus hx1
  obtain ⟨v1,rfl,rfl,h2⟩:=r1
  refine wlL [ob v1,D2,ob pv0] (sre [1] [ob v1,D2] rfl (by simpa [List.append_assoc] using sp1))<|lih h1 hx1 rfl<|lf Cv rfl rfl rfl<|lu (us [2] [ob v1,D2] 0 gi.lasts iE rfl rfl rfl rfl h1 rfl (fun ap=>ap.q 1 rfl)) rfl ?_
  rintro Φ_2 D3 ⟨⟨ap1,fr1⟩,h3⟩
  replace h2:=h2.fr fr1 (ap1.q 0 rfl) dN
  refine arr 12 [] rfl<|qc h (bc N · (wz (s2+1)) ·) rfl rfl rfl fun x2 h=>lih h3 hx1 rfl<|lf H8 rfl rfl rfl<|lu (us [0] [ob v1,D2] 1 gi.lasts mT rfl rfl rfl rfl h3 rfl (fun ap=>ap.q 1 rfl)) rfl ?_
  rintro Φ_3 D4 ⟨⟨ap2,fr2⟩,h4⟩
  replace h2:=h2.fr fr2 (ap2.q 0 rfl) dN
  refine arr 11 [] rfl<|lih h4 hx1 rfl<|lf sv rfl rfl rfl<|lgx 2 0 h4.rg rfl<|la rfl<|kcb [1] h rfl rfl rfl rfl (fun b ap z q=>wT N b x1.Args (wz ((wz (s2+1))+1)) h2 q) ?_
  rintro x3 h v2 Φ_4 F2 ⟨ap3,fr3,rfl,rfl,h5⟩
  replace h4:=h4.fr fr3 (ap3.q 0 rfl) (ap3.q 1 rfl)
  refine arr 7 [] rfl<|lih h4 hx1 rfl<|lf Cc rfl rfl rfl<|lu (us [1] [ob v1,D2] 3 gi.lasts iE rfl rfl rfl rfl h4 rfl (fun ap=>ap.q 1 rfl)) rfl ?_
  rintro Φ_5 D5 ⟨⟨ap4,fr4⟩,h6⟩
  replace h5:=h5.fr fr4 (ap4.q 0 rfl) dN
  refine arr 12 [] rfl<|qc h (bc N · (wz (x3.1+1)) ·) rfl rfl rfl fun x4 h=>lih h6 hx1 rfl<|lf Hc rfl rfl rfl<|lu (us [0] [ob v1,D2] 4 gi.lasts mT rfl rfl rfl rfl h6 rfl (fun ap=>ap.q 1 rfl)) rfl ?_
  rintro Φ_6 D6 ⟨⟨ap5,fr5⟩,h7⟩
  replace h5:=h5.fr fr5 (ap5.q 0 rfl) dN
  refine art 12 [] rfl ?_
  have r2:gi Φ_6 _ [iV s2,.string x2,v1,iV x3.1,.string x4] (⟨s2,x2,x3.2,x3.1,x4⟩:bH):=⟨v1,rfl,rfl,h5⟩
  obtain ⟨D7,h8,sp2⟩:=h7.unfocus r2 (gi.knows _ _ _ _ r2)
  refine wtL [D7,ob pv0] (smg [1,1] rfl (by simpa [List.append_assoc,bm] using sp2)) ?_
  exact lb [1,0] [] (ih1 (_,_,_,_,_) ⟨h,h8⟩)
 refine att 6 [] rfl ?_
 exact rtg [0,0] hF (ao.one rfl) rfl (by cases h; exact fun w1 hw=>⟨D1,rfl,rfl,k1⟩)
theorem wc (w0:ab Ψ Φ [ob pv0,pD0].flatten) (p0:(List af)) (p1:Int) (ph0:OSl bJ 145 5 Φ pD0 pv0 p0) {r:Int × (List af)} (h:nL N p0 p1=some r) :
  Calls prog 47 [pv0,iV p1].toArray w0.w (aL Φ w0.w [ob pv0,pD0].flatten (fun Φ' Fs v=>∃ (Do_0_0:List Nat),v=iV r.1∧Fs=[ob pv0,Do_0_0]∧OSl bJ 145 5 Φ' Do_0_0 pv0 r.2)):=by
 refine eL func47 rfl ntmps47 rfl (L:=[ob pv0,pD0]) w0 (fun hF=>?_)
 unfold nL at h
 refine att 10 [] rfl ?_
 refine lin (σ:=Hp × (List af) × List Nat × Int × Int) (fun s=>[(0,pv0),(1,iV s.2.2.2.1),(5,iV s.2.2.2.2)]) (fun s=>St w0 s.1 [] [ob pv0,s.2.2.1]) (fun m s=>eh N m s.2.1 s.2.2.2.1 s.2.2.2.2=some r∧(OSl bJ 145 5 s.1 s.2.2.1 pv0 s.2.1)) (Φ,p0,pD0,p1,0) N ⟨h,ph0⟩ (sx [0,0] []) (fun n1 ih1 s hm=>?_)
 obtain ⟨Φ_1,s1,D1,s2,s3⟩:=s
 obtain ⟨h,k1⟩:=hm
 dsimp only at h k1 ⊢
 unfold eh at h
 refine atr 5 [] rfl<|lno k1 rfl<|la rfl<|en ?_
 refine ch h rfl ?_ ?_ <;> intro h
 ·refine atr 8 [] rfl<|qc h (bc N · s2 ·) rfl rfl rfl fun x1 h=>?_
  obtain ⟨x2,hx2,h⟩:=bs h
  obtain ⟨cs1,F1,D2,h1,r1,kf1,sp1⟩:=k1.focus hx2
  obtain ⟨v1,D3,v2,v3,D4,rfl,rfl,h2,h3,h4⟩:=r1
  refine wlL [ob v1,D3,ob v2,ob v3,D4,D2,ob pv0] (sre [1] [ob v1,D3,ob v2,ob v3,D4,D2] rfl (by simpa [List.append_assoc] using sp1))<|lih h1 hx2 rfl<|lf wP rfl rfl rfl<|lu (us [6] [ob v1,D3,ob v2,ob v3,D4,D2] 0 bJ.lasts mT rfl rfl rfl rfl h1 rfl (fun ap=>ap.q 5 rfl)) rfl ?_
  rintro Φ_2 D5 ⟨⟨ap1,fr1⟩,h5⟩
  replace h2:=h2.fr fr1 (ap1.q 0 rfl) (ap1.q 1 rfl)
  replace h3:=h3.fr fr1 (ap1.q 2 rfl) dN
  replace h4:=h4.fr fr1 (ap1.q 3 rfl) (ap1.q 4 rfl)
  refine arr 12 [] rfl<|lih h5 hx2 rfl<|lf H2 rfl rfl rfl<|lu (us [0] [ob v1,D3,ob v2,ob v3,D4,D2] 1 bJ.lasts iE rfl rfl rfl rfl h5 rfl (fun ap=>ap.q 5 rfl)) rfl ?_
  rintro Φ_3 D6 ⟨⟨ap2,fr2⟩,h6⟩
  replace h2:=h2.fr fr2 (ap2.q 0 rfl) (ap2.q 1 rfl)
  replace h3:=h3.fr fr2 (ap2.q 2 rfl) dN
  replace h4:=h4.fr fr2 (ap2.q 3 rfl) (ap2.q 4 rfl)
  refine arr 11 [] rfl<|lih h6 hx2 rfl<|lf ua rfl rfl rfl<|lgx 2 0 h6.rg rfl<|la rfl<|kcb [1,1] h rfl rfl rfl rfl (fun b ap z q=>xn N b x2.Pats (wz ((wz (s2+1))+1)) h2 q) ?_
  rintro x3 h v4 Φ_4 F2 ⟨ap3,fr3,D7,rfl,rfl,h7⟩
  replace h6:=h6.fr fr3 (ap3.q 0 rfl) (ap3.q 4 rfl)
  replace h3:=h3.fr fr3 (ap3.q 1 rfl) dN
  replace h4:=h4.fr fr3 (ap3.q 2 rfl) (ap3.q 3 rfl)
  refine arr 6 [] rfl<|lih h6 hx2 rfl<|lf Ce rfl rfl rfl<|lgx 3 0 h6.rg rfl<|la rfl<|kcb [3] h rfl rfl rfl rfl (fun b ap z q=>wj N b x2.Conds x3.1 h3 q) ?_
  rintro x4 h v5 Φ_5 F3 ⟨ap4,fr4,rfl,rfl,h8⟩
  replace h6:=h6.fr fr4 (ap4.q 2 rfl) (ap4.q 5 rfl)
  replace h7:=h7.fr fr4 (ap4.q 0 rfl) (ap4.q 1 rfl)
  replace h4:=h4.fr fr4 (ap4.q 3 rfl) (ap4.q 4 rfl)
  refine arr 5 [] rfl<|lih h6 hx2 rfl<|lf Ck rfl rfl rfl<|lgx 4 0 h6.rg rfl<|la rfl<|kcb [4,4] h rfl rfl rfl rfl (fun b ap z q=>xl N b x2.Acts x4.1 h4 q) ?_
  rintro x5 h v6 Φ_6 F4 ⟨ap5,fr5,D8,rfl,rfl,h9⟩
  replace h6:=h6.fr fr5 (ap5.q 3 rfl) (ap5.q 4 rfl)
  replace h7:=h7.fr fr5 (ap5.q 1 rfl) (ap5.q 2 rfl)
  replace h8:=h8.fr fr5 (ap5.q 0 rfl) dN
  refine art 8 [] rfl ?_
  have r2:bJ Φ_6 _ [.string x1,iV (wz (s2+1)),v1,v2,v3] (⟨x1,wz (s2+1),x3.2,x4.2,x5.2⟩:af):=⟨v1,D7,v2,v3,D8,rfl,rfl,h7,h8,h9⟩
  obtain ⟨D9,h10,sp2⟩:=h6.unfocus r2 (bJ.knows _ _ _ _ r2)
  refine wtL [D9,ob pv0] (smg [3,3,2,0,0,1] rfl (by simpa [List.append_assoc,bm] using sp2)) ?_
  exact lb [1,0] [] (ih1 (_,_,_,_,_) ⟨h,h10⟩)
 refine att 6 [] rfl ?_
 exact rtg [0,0] hF (ao.one rfl) rfl (by cases h; exact fun w1 hw=>⟨D1,rfl,rfl,k1⟩)
theorem yu (w0:ab Ψ Φ [ob pv0_0,pD0_0].flatten) (p0:bl) (p1:Int) (ph0_0:OSl bJ 145 5 Φ pD0_0 pv0_0 p0.Rules) {r:Int × (List af)} (h:oh N p0 p1=some r) :
  Calls prog 18 [.agg [.string p0.Name,pv0_0].toArray,iV p1].toArray w0.w (aL Φ w0.w [ob pv0_0,pD0_0].flatten (fun Φ' Fs v=>∃ (Do_0_0:List Nat),v=iV r.1∧Fs=[ob pv0_0,Do_0_0]∧OSl bJ 145 5 Φ' Do_0_0 pv0_0 r.2)):=by
 refine eL func18 rfl ntmps18 rfl (L:=[ob pv0_0,pD0_0]) w0 (fun hF=>?_)
 unfold oh at h
 refine sr<|lbx rfl fun b_1=>arr 7 [1,0] rfl<|kcb [0,0] h rfl rfl rfl rfl (fun b ap z q=>wc N b p0.Rules p1 ph0_0 q) ?_
 rintro x1 h v1 Φ_1 F1 ⟨ap1,fr1,D1,rfl,rfl,h1⟩
 refine art 7 [] rfl ?_
 exact rtg [0,0] hF (ao.one rfl) rfl (by cases h; exact fun w1 hw=>⟨D1,rfl,rfl,h1⟩)
theorem te (w0:ab Ψ Φ [ob pv0].flatten) (p0:(List aE)) (p1:Int) (ph0:OSl av 225 3 Φ [] pv0 p0) {r:Int × (List aE)} (h:mM N p0 p1=some r) :
  Calls prog 96 [pv0,iV p1].toArray w0.w (aL Φ w0.w [ob pv0].flatten (fun Φ' Fs v=>v=iV r.1∧Fs=[ob pv0]∧OSl av 225 3 Φ' [] pv0 r.2)):=by
 refine eL func96 rfl ntmps96 rfl (L:=[ob pv0]) w0 (fun hF=>?_)
 unfold mM at h
 refine att 10 [] rfl ?_
 refine lin (σ:=Hp × (List aE) × Int × Int) (fun s=>[(0,pv0),(1,iV s.2.2.1),(5,iV s.2.2.2)]) (fun s=>St w0 s.1 [] [ob pv0]) (fun m s=>fo N m s.2.1 s.2.2.1 s.2.2.2=some r∧(OSl av 225 3 s.1 [] pv0 s.2.1)) (Φ,p0,p1,0) N ⟨h,ph0⟩ (sx [0] []) (fun n1 ih1 s hm=>?_)
 obtain ⟨Φ_1,s1,s2,s3⟩:=s
 obtain ⟨h,k1⟩:=hm
 dsimp only at h k1 ⊢
 unfold fo at h
 refine atr 5 [] rfl<|lno k1 rfl<|la rfl<|en ?_
 refine ch h rfl ?_ ?_ <;> intro h
 ·refine atr 8 [] rfl ?_
  obtain ⟨x1,hx1,h⟩:=bs h
  obtain ⟨cs1,F1,h1,r1⟩:=k1.focusF av.flat hx1
  obtain ⟨rfl,-⟩:=r1
  refine lih h1 hx1 rfl<|lf Hs rfl rfl rfl<|lu (us [0] [] 0 av.lasts iE rfl rfl rfl rfl h1 rfl (fun ap=>dN)) rfl ?_
  rintro Φ_2 D2 ⟨⟨ap1,fr1⟩,h2⟩
  refine arr 12 [] rfl<|lih h2 hx1 rfl<|lf Hv rfl rfl rfl<|lu (us [0] [] 1 av.lasts iE rfl rfl rfl rfl h2 rfl (fun ap=>dN)) rfl ?_
  rintro Φ_3 D3 ⟨⟨ap2,fr2⟩,h3⟩
  refine arr 12 [] rfl<|qc h (bc N · (wz ((wz (s2+1))+1)) ·) rfl rfl rfl fun x2 h=>lih h3 hx1 rfl<|lf H5 rfl rfl rfl<|lu (us [0] [] 2 av.lasts mT rfl rfl rfl rfl h3 rfl (fun ap=>dN)) rfl ?_
  rintro Φ_4 D4 ⟨⟨ap3,fr3⟩,h4⟩
  refine art 12 [] rfl ?_
  have h5:=h4.unfocusF av.flat (x':=(⟨s2,wz (s2+1),x2⟩:aE)) ⟨rfl,rfl⟩
  exact lb [0] [] (ih1 (_,_,_,_) ⟨h,h5⟩)
 refine att 6 [] rfl ?_
 exact rtg [0] hF (ao.one rfl) rfl (by cases h; exact fun w1 hw=>⟨rfl,rfl,k1⟩)
theorem gy (w0:ab Ψ Φ [ob pv0].flatten) (p0:(List Int)) (p1:Int) (ph0:OSl (RI .i64) 3 1 Φ [] pv0 p0) {r:Int × (List Int)} (h:fD N p0 p1=some r) :
  Calls prog 97 [pv0,iV p1].toArray w0.w (aL Φ w0.w [ob pv0].flatten (fun Φ' Fs v=>v=iV r.1∧Fs=[ob pv0]∧OSl (RI .i64) 3 1 Φ' [] pv0 r.2)):=by
 refine eL func97 rfl ntmps97 rfl (L:=[ob pv0]) w0 (fun hF=>?_)
 unfold fD at h
 refine att 10 [] rfl ?_
 refine lin (σ:=Hp × (List Int) × Int × Int) (fun s=>[(0,pv0),(1,iV s.2.2.1),(5,iV s.2.2.2)]) (fun s=>St w0 s.1 [] [ob pv0]) (fun m s=>fq N m s.2.1 s.2.2.1 s.2.2.2=some r∧(OSl (RI .i64) 3 1 s.1 [] pv0 s.2.1)) (Φ,p0,p1,0) N ⟨h,ph0⟩ (sx [0] []) (fun n1 ih1 s hm=>?_)
 obtain ⟨Φ_1,s1,s2,s3⟩:=s
 obtain ⟨h,k1⟩:=hm
 dsimp only at h k1 ⊢
 unfold fq at h
 refine atr 5 [] rfl<|lno k1 rfl<|la rfl<|en ?_
 refine ch h rfl ?_ ?_ <;> intro h
 ·refine atr 8 [] rfl ?_
  obtain ⟨x1,hx1,h⟩:=bs h
  obtain ⟨cs1,F1,-,g1,hb1,hs1,r1⟩:=k1.elS (a7 hx1).2.2
  obtain ⟨rfl,-⟩:=r1
  refine lio k1 hx1 rfl<|lu (tM (js:=[0]) (Rr:=[]) (vs:=[iV s2]) (x':=s2) RI.lasts RI.flat iE rfl rfl rfl rfl ⟨rfl,trivial⟩ rfl k1 (fV hx1) ⟨rfl,rfl⟩) rfl ?_
  rintro Φ_2 D1 ⟨⟨ap1,fr1⟩,h1⟩
  refine art 12 [] rfl ?_
  exact lb [0] [] (ih1 (_,_,_,_) ⟨h,h1⟩)
 refine att 6 [] rfl ?_
 exact rtg [0] hF (ao.one rfl) rfl (by cases h; exact fun w1 hw=>⟨rfl,rfl,k1⟩)
end Go.Proofs.YtkdffjpgnhobhaaGreat
