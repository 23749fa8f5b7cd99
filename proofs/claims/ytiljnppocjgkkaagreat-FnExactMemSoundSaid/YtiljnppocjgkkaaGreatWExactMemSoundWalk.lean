/- Printed by a program of ours: each Go function computes its Lean function. -/
import Derived.Test.YtiljnppocjgkkaaGreatProg
import Derived.Test.YtiljnppocjgkkaaGreatWExactMemSoundWalk8
namespace Go.Proofs.YtiljnppocjgkkaaGreat
open Eng Tryz
open Go.RowKit (Below)
set_option linter.unusedVariables false
set_option linter.unusedSimpArgs false

set_option maxRecDepth 100000
set_option maxHeartbeats 1000000
variable {Ψ Φ:Hp} {pv0 pv1 pv0_0 pv1_0 pv0_1 pv1_1 pv2_0:Value} {pG0 pG1 pG0_0 pG1_0 pG0_1 pG1_1 pG2_0:List Nat} (N:Nat)
theorem zd (w0:af Ψ Φ []) (p0:(List aa)) (p1:(List aa)) (ph0:RSl bC 2 Ψ pG0 pv0 p0) (ph1:RSl bC 2 Ψ pG1 pv1 p1) {r:Bool} (h:oU N p0 p1=some r) :
  CB w0 prog 215 [pv0,pv1] (.bool r):=by
 refine eN func215 rfl ntmps215 rfl w0 fun hF=>?_
 unfold oU at h
 refine atr 8 [] rfl<|lnr ph0 rfl<|la rfl<|lnr ph1 rfl<|la rfl<|en ?_
 refine ch h rfl ?_ ?_ <;> intro h
 ·refine att 4 [] rfl ?_
  exact rt hF h
 refine att 7 [] rfl ?_
 refine lin (σ:=Int) (fun s=>[(0,pv0),(1,pv1),(5,iV s)]) (fun s=>St w0 Φ [] []) (fun m s=>ie N p0 p1 m s=some r) (0) N h (sx [] []) (fun n1 ih1 s hm=>?_)
 revert hm; revert s; intro s1 hm
 have h:ie N p0 p1 (n1+1) s1=some r:=hm
 show WT _ _ [(0,pv0),(1,pv1),(5,iV s1)] (St w0 Φ [] [])
 unfold ie at h
 refine atr 5 [] rfl<|lnr ph0 rfl<|la rfl<|en ?_
 refine ch h rfl ?_ ?_ <;> intro h
 ·refine att 4 [] rfl<|WT.draw mixed (by kernel_rfl) (fun _ h=>h.drew)<|aqq 2 [] rfl ?_
  obtain ⟨x1,hx1,h⟩:=bs h
  obtain ⟨cs1,F1,-,g1,hb1,hs1,r1⟩:=ph0.el (a7 hx1).2.2
  obtain ⟨v1,G1,v2,G2,rfl,rfl,h1,h2⟩:=r1
  refine qq (a8 fj rfl rfl ph0 hx1) rfl<|qq (aq vv rfl (fun w1 hw=>(g1.of_eq 0 2 rfl rfl:rg _ _ _ [v1,v2]).rangeAt hw.in0) rfl) rfl<|aqq 2 [] rfl ?_
  obtain ⟨x2,hx2,h⟩:=bs h
  obtain ⟨cs2,F2,-,g2,hb2,hs2,r2⟩:=ph1.el (a7 hx2).2.2
  obtain ⟨v3,G3,v4,G4,rfl,rfl,h3,h4⟩:=r2
  refine qq (a8 fj rfl rfl ph1 hx2) rfl<|qq (aq vv rfl (fun w1 hw=>(g2.of_eq 0 2 rfl rfl:rg _ _ _ [v3,v4]).rangeAt hw.in0) rfl) rfl ?_
  obtain ⟨x3,hx3,h⟩:=bs h
  refine qp (bH GX rfl (fun w1 hw=>Bp N (ba hw.in0) x1 x2 h1 h2 h3 h4 hx3)) rfl<|aqt 2 [] rfl ?_
  refine ch h rfl ?_ ?_ <;> intro h
  ·refine att 4 [] rfl ?_
   exact rt hF h
  refine att 7 [] rfl ?_
  exact lb [] [] (ih1 _ h)
 refine att 5 [] rfl ?_
 exact rt hF h
theorem xi (w0:af Ψ Φ []) (p0:ab) (p1:ab) (ph0_0:RSl bC 2 Ψ pG0_0 pv0_0 p0.Toks) (ph1_0:RSl bC 2 Ψ pG1_0 pv1_0 p1.Toks) {r:Bool} (h:jH N p0 p1=some r) :
  CB w0 prog 175 [.agg [pv0_0].toArray,.agg [pv1_0].toArray] (.bool r):=by
 refine eN func175 rfl ntmps175 rfl w0 fun hF=>?_
 unfold jH at h
 refine sr ?_
 refine ln (jI (C:=#[pv0_0]) rfl rfl) rfl (fun b_1=>?_)
 refine ln (jI (C:=#[pv1_0]) rfl rfl) rfl (fun b_2=>?_)
 refine arr 9 [0,32,0,0] rfl<|qd h (zd N · p0.Toks p1.Toks ph0_0 ph1_0 ·) rfl rfl rfl fun x1 h=>la rfl<|en ?_
 refine ch h rfl ?_ ?_ <;> intro h
 ·refine att 4 [] rfl ?_
  exact rt hF h
 refine att 5 [] rfl ?_
 exact rt hF h
theorem va (w0:af Ψ Φ []) (p0:(List ab)) (p1:(List ab)) (ph0:RSl cc 1 Ψ pG0 pv0 p0) (ph1:RSl cc 1 Ψ pG1 pv1 p1) {r:Bool} (h:kl N p0 p1=some r) :
  CB w0 prog 130 [pv0,pv1] (.bool r):=by
 refine eN func130 rfl ntmps130 rfl w0 fun hF=>?_
 unfold kl at h
 refine atr 8 [] rfl<|lnr ph0 rfl<|la rfl<|lnr ph1 rfl<|la rfl<|en ?_
 refine ch h rfl ?_ ?_ <;> intro h
 ·refine att 4 [] rfl ?_
  exact rt hF h
 refine att 7 [] rfl ?_
 refine lin (σ:=Int) (fun s=>[(0,pv0),(1,pv1),(5,iV s)]) (fun s=>St w0 Φ [] []) (fun m s=>fu N p0 p1 m s=some r) (0) N h (sx [] []) (fun n1 ih1 s hm=>?_)
 revert hm; revert s; intro s1 hm
 have h:fu N p0 p1 (n1+1) s1=some r:=hm
 show WT _ _ [(0,pv0),(1,pv1),(5,iV s1)] (St w0 Φ [] [])
 unfold fu at h
 refine atr 5 [] rfl<|lnr ph0 rfl<|la rfl<|en ?_
 refine ch h rfl ?_ ?_ <;> intro h
 ·refine att 4 [] rfl<|WT.draw mixed (by kernel_rfl) (fun _ h=>h.drew)<|aqq 2 [] rfl ?_
  obtain ⟨x1,hx1,h⟩:=bs h
  obtain ⟨cs1,F1,-,g1,hb1,hs1,r1⟩:=ph0.el (a7 hx1).2.2
  obtain ⟨v1,G1,rfl,hq1,h1⟩:=r1
  obtain rfl:=hq1.symm
  refine qq (a8 rn rfl rfl ph0 hx1) rfl<|qq (aq zW rfl (fun w1 hw=>(g1.of_eq 0 1 rfl rfl:rg _ _ _ [v1]).rangeAt hw.in0) rfl) rfl<|aqq 2 [] rfl ?_
  obtain ⟨x2,hx2,h⟩:=bs h
  obtain ⟨cs2,F2,-,g2,hb2,hs2,r2⟩:=ph1.el (a7 hx2).2.2
  obtain ⟨v2,G2,rfl,hq2,h2⟩:=r2
  obtain rfl:=hq2.symm
  refine qq (a8 rn rfl rfl ph1 hx2) rfl<|qq (aq zW rfl (fun w1 hw=>(g2.of_eq 0 1 rfl rfl:rg _ _ _ [v2]).rangeAt hw.in0) rfl) rfl ?_
  obtain ⟨x3,hx3,h⟩:=bs h
  refine qp (bH GF rfl (fun w1 hw=>xi N (ba hw.in0) x1 x2 h1 h2 hx3)) rfl<|aqt 2 [] rfl ?_
  refine ch h rfl ?_ ?_ <;> intro h
  ·refine att 4 [] rfl ?_
   exact rt hF h
  refine att 7 [] rfl ?_
  exact lb [] [] (ih1 _ h)
 refine att 5 [] rfl ?_
 exact rt hF h
theorem AR (w0:af Ψ Φ []) (p0:aF) (p1:aF) (ph0_0:RSl cc 1 Ψ pG0_0 pv0_0 p0.Levels) (ph1_0:RSl cc 1 Ψ pG1_0 pv1_0 p1.Levels) {r:Bool} (h:nD N p0 p1=some r) :
  CB w0 prog 76 [.agg [pv0_0].toArray,.agg [pv1_0].toArray] (.bool r):=by
 refine eN func76 rfl ntmps76 rfl w0 fun hF=>?_
 unfold nD at h
 refine sr ?_
 refine ln (jI (C:=#[pv0_0]) rfl rfl) rfl (fun b_1=>?_)
 refine ln (jI (C:=#[pv1_0]) rfl rfl) rfl (fun b_2=>?_)
 refine arr 9 [0,32,0,0] rfl<|qd h (va N · p0.Levels p1.Levels ph0_0 ph1_0 ·) rfl rfl rfl fun x1 h=>la rfl<|en ?_
 refine ch h rfl ?_ ?_ <;> intro h
 ·refine att 4 [] rfl ?_
  exact rt hF h
 refine att 5 [] rfl ?_
 exact rt hF h
theorem xM (w0:af Ψ Φ []) (p0:(List aF)) (p1:(List aF)) (ph0:RSl ff 1 Ψ pG0 pv0 p0) (ph1:RSl ff 1 Ψ pG1 pv1 p1) {r:Bool} (h:oH N p0 p1=some r) :
  CB w0 prog 36 [pv0,pv1] (.bool r):=by
 refine eN func36 rfl ntmps36 rfl w0 fun hF=>?_
 unfold oH at h
 refine atr 8 [] rfl<|lnr ph0 rfl<|la rfl<|lnr ph1 rfl<|la rfl<|en ?_
 refine ch h rfl ?_ ?_ <;> intro h
 ·refine att 4 [] rfl ?_
  exact rt hF h
 refine att 7 [] rfl ?_
 refine lin (σ:=Int) (fun s=>[(0,pv0),(1,pv1),(5,iV s)]) (fun s=>St w0 Φ [] []) (fun m s=>i9 N p0 p1 m s=some r) (0) N h (sx [] []) (fun n1 ih1 s hm=>?_)
 revert hm; revert s; intro s1 hm
 have h:i9 N p0 p1 (n1+1) s1=some r:=hm
 show WT _ _ [(0,pv0),(1,pv1),(5,iV s1)] (St w0 Φ [] [])
 unfold i9 at h
 refine atr 5 [] rfl<|lnr ph0 rfl<|la rfl<|en ?_
 refine ch h rfl ?_ ?_ <;> intro h
 ·refine att 4 [] rfl<|WT.draw mixed (by kernel_rfl) (fun _ h=>h.drew)<|aqq 2 [] rfl ?_
  obtain ⟨x1,hx1,h⟩:=bs h
  obtain ⟨cs1,F1,-,g1,hb1,hs1,r1⟩:=ph0.el (a7 hx1).2.2
  obtain ⟨v1,G1,rfl,hq1,h1⟩:=r1
  obtain rfl:=hq1.symm
  refine qq (a8 tf rfl rfl ph0 hx1) rfl<|qq (aq vw rfl (fun w1 hw=>(g1.of_eq 0 1 rfl rfl:rg _ _ _ [v1]).rangeAt hw.in0) rfl) rfl<|aqq 2 [] rfl ?_
  obtain ⟨x2,hx2,h⟩:=bs h
  obtain ⟨cs2,F2,-,g2,hb2,hs2,r2⟩:=ph1.el (a7 hx2).2.2
  obtain ⟨v2,G2,rfl,hq2,h2⟩:=r2
  obtain rfl:=hq2.symm
  refine qq (a8 tf rfl rfl ph1 hx2) rfl<|qq (aq vw rfl (fun w1 hw=>(g2.of_eq 0 1 rfl rfl:rg _ _ _ [v2]).rangeAt hw.in0) rfl) rfl ?_
  obtain ⟨x3,hx3,h⟩:=bs h
  refine qp (bH Ih rfl (fun w1 hw=>AR N (ba hw.in0) x1 x2 h1 h2 hx3)) rfl<|aqt 2 [] rfl ?_
  refine ch h rfl ?_ ?_ <;> intro h
  ·refine att 4 [] rfl ?_
   exact rt hF h
  refine att 7 [] rfl ?_
  exact lb [] [] (ih1 _ h)
 refine att 5 [] rfl ?_
 exact rt hF h
theorem BQ (w0:af Ψ Φ []) (p0:aJ) (p1:aJ) (ph0_0:RSl dp 1 Ψ pG0_0 pv0_0 p0.Alphas) (ph0_1:RSl ff 1 Ψ pG0_1 pv0_1 p0.Rules) (ph1_0:RSl dp 1 Ψ pG1_0 pv1_0 p1.Alphas) (ph1_1:RSl ff 1 Ψ pG1_1 pv1_1 p1.Rules) {r:Bool} (h:qa N p0 p1=some r) :
  CB w0 prog 13 [.agg [pv0_0,pv0_1].toArray,.agg [pv1_0,pv1_1].toArray] (.bool r):=by
 refine eN func13 rfl ntmps13 rfl w0 fun hF=>?_
 unfold qa at h
 refine sr<|lbx rfl fun b_1=>lbx rfl fun b_2=>arr 9 [0,32,0,0] rfl<|qd h (yv N · p0.Alphas p1.Alphas ph0_0 ph1_0 ·) rfl rfl rfl fun x1 h=>la rfl<|en ?_
 refine ch h rfl ?_ ?_ <;> intro h
 ·refine att 4 [] rfl ?_
  exact rt hF h
 refine atr 8 [1,32,1,0] rfl<|qd h (xM N · p0.Rules p1.Rules ph0_1 ph1_1 ·) rfl rfl rfl fun x2 h=>la rfl<|en ?_
 refine ch h rfl ?_ ?_ <;> intro h
 ·refine att 4 [] rfl ?_
  exact rt hF h
 refine att 5 [] rfl ?_
 exact rt hF h
theorem zB (w0:af Ψ Φ []) (p0:(List aP)) (p1:(List aP)) (ph0:RSl aD 3 Ψ pG0 pv0 p0) (ph1:RSl aD 3 Ψ pG1 pv1 p1) {r:Bool} (h:nK N p0 p1=some r) :
  CB w0 prog 176 [pv0,pv1] (.bool r):=by
 refine eN func176 rfl ntmps176 rfl w0 fun hF=>?_
 unfold nK at h
 refine atr 8 [] rfl<|lnr ph0 rfl<|la rfl<|lnr ph1 rfl<|la rfl<|en ?_
 refine ch h rfl ?_ ?_ <;> intro h
 ·refine att 4 [] rfl ?_
  exact rt hF h
 refine att 7 [] rfl ?_
 refine lin (σ:=Int) (fun s=>[(0,pv0),(1,pv1),(5,iV s)]) (fun s=>St w0 Φ [] []) (fun m s=>hP N p0 p1 m s=some r) (0) N h (sx [] []) (fun n1 ih1 s hm=>?_)
 revert hm; revert s; intro s1 hm
 have h:hP N p0 p1 (n1+1) s1=some r:=hm
 show WT _ _ [(0,pv0),(1,pv1),(5,iV s1)] (St w0 Φ [] [])
 unfold hP at h
 refine atr 5 [] rfl<|lnr ph0 rfl<|la rfl<|en ?_
 refine ch h rfl ?_ ?_ <;> intro h
 ·refine att 4 [] rfl<|WT.draw mixed (by kernel_rfl) (fun _ h=>h.drew)<|aqq 2 [] rfl ?_
  obtain ⟨x1,hx1,h⟩:=bs h
  obtain ⟨cs1,F1,-,g1,hb1,hs1,r1⟩:=ph0.el (a7 hx1).2.2
  obtain ⟨rfl,-⟩:=r1
  refine qq (a8 dA rfl rfl ph0 hx1) rfl<|qq (aq gF rfl (fun w1 hw=>(g1.of_eq 0 3 rfl rfl:rg _ _ _ [iV x1.K,iV x1.N,.string x1.S]).rangeAt hw.in0) rfl) rfl<|aqq 2 [] rfl ?_
  obtain ⟨x2,hx2,h⟩:=bs h
  obtain ⟨cs2,F2,-,g2,hb2,hs2,r2⟩:=ph1.el (a7 hx2).2.2
  obtain ⟨rfl,-⟩:=r2
  refine qq (a8 dA rfl rfl ph1 hx2) rfl<|qq (aq gF rfl (fun w1 hw=>(g2.of_eq 0 3 rfl rfl:rg _ _ _ [iV x2.K,iV x2.N,.string x2.S]).rangeAt hw.in0) rfl) rfl ?_
  obtain ⟨x3,hx3,h⟩:=bs h
  refine qp (bH H6 rfl (fun w1 hw=>tM N (ba hw.fro) x1 x2 hx3)) rfl<|aqt 2 [] rfl ?_
  refine ch h rfl ?_ ?_ <;> intro h
  ·refine att 4 [] rfl ?_
   exact rt hF h
  refine att 7 [] rfl ?_
  exact lb [] [] (ih1 _ h)
 refine att 5 [] rfl ?_
 exact rt hF h
theorem yX (w0:af Ψ Φ []) (p0:av) (p1:av) (ph0_0:RSl aD 3 Ψ pG0_0 pv0_0 p0.Fields) (ph1_0:RSl aD 3 Ψ pG1_0 pv1_0 p1.Fields) {r:Bool} (h:oN N p0 p1=some r) :
  CB w0 prog 131 [.agg [.string p0.Kind,pv0_0].toArray,.agg [.string p1.Kind,pv1_0].toArray] (.bool r):=by
 refine eN func131 rfl ntmps131 rfl w0 fun hF=>?_
 unfold oN at h
 refine sr<|lbx rfl fun b_1=>lbx rfl fun b_2=>art 11 [0,32,0,0] rfl ?_
 refine ch h rfl ?_ ?_ <;> intro h
 ·refine att 4 [] rfl ?_
  exact rt hF h
 refine atr 8 [1,32,1,0] rfl<|qd h (zB N · p0.Fields p1.Fields ph0_0 ph1_0 ·) rfl rfl rfl fun x1 h=>la rfl<|en ?_
 refine ch h rfl ?_ ?_ <;> intro h
 ·refine att 4 [] rfl ?_
  exact rt hF h
 refine att 5 [] rfl ?_
 exact rt hF h
theorem ya (w0:af Ψ Φ []) (p0:an) (p1:an) (ph0_0:RSl aD 3 Ψ pG0_0 pv0_0 p0.F.Fields) (ph1_0:RSl aD 3 Ψ pG1_0 pv1_0 p1.F.Fields) {r:Bool} (h:lm N p0 p1=some r) :
  CB w0 prog 77 [.agg [iV p0.Id,.string p0.F.Kind,pv0_0].toArray,.agg [iV p1.Id,.string p1.F.Kind,pv1_0].toArray] (.bool r):=by
 refine eN func77 rfl ntmps77 rfl w0 fun hF=>?_
 unfold lm at h
 refine sr<|lbx rfl fun b_1=>lbx rfl fun b_2=>art 11 [0,32,0,0] rfl ?_
 refine ch h rfl ?_ ?_ <;> intro h
 ·refine att 4 [] rfl ?_
  exact rt hF h
 refine atr 8 [1,34,1,2] rfl<|qd h (yX N · p0.F p1.F ph0_0 ph1_0 ·) rfl rfl rfl fun x1 h=>la rfl<|en ?_
 refine ch h rfl ?_ ?_ <;> intro h
 ·refine att 4 [] rfl ?_
  exact rt hF h
 refine att 5 [] rfl ?_
 exact rt hF h
theorem xe (w0:af Ψ Φ []) (p0:(List an)) (p1:(List an)) (ph0:RSl bn 3 Ψ pG0 pv0 p0) (ph1:RSl bn 3 Ψ pG1 pv1 p1) {r:Bool} (h:m8 N p0 p1=some r) :
  CB w0 prog 37 [pv0,pv1] (.bool r):=by
 refine eN func37 rfl ntmps37 rfl w0 fun hF=>?_
 unfold m8 at h
 refine atr 8 [] rfl<|lnr ph0 rfl<|la rfl<|lnr ph1 rfl<|la rfl<|en ?_
 refine ch h rfl ?_ ?_ <;> intro h
 ·refine att 4 [] rfl ?_
  exact rt hF h
 refine att 7 [] rfl ?_
 refine lin (σ:=Int) (fun s=>[(0,pv0),(1,pv1),(5,iV s)]) (fun s=>St w0 Φ [] []) (fun m s=>gn N p0 p1 m s=some r) (0) N h (sx [] []) (fun n1 ih1 s hm=>?_)
 revert hm; revert s; intro s1 hm
 have h:gn N p0 p1 (n1+1) s1=some r:=hm
 show WT _ _ [(0,pv0),(1,pv1),(5,iV s1)] (St w0 Φ [] [])
 unfold gn at h
 refine atr 5 [] rfl<|lnr ph0 rfl<|la rfl<|en ?_
 refine ch h rfl ?_ ?_ <;> intro h
 ·refine att 4 [] rfl<|WT.draw mixed (by kernel_rfl) (fun _ h=>h.drew)<|aqq 2 [] rfl ?_
  obtain ⟨x1,hx1,h⟩:=bs h
  obtain ⟨cs1,F1,-,g1,hb1,hs1,r1⟩:=ph0.el (a7 hx1).2.2
  obtain ⟨v1,G1,rfl,hq1,h1⟩:=r1
  obtain rfl:=hq1.symm
  refine qq (a8 rP rfl rfl ph0 hx1) rfl<|qq (aq Dl rfl (fun w1 hw=>(g1.of_eq 0 3 rfl rfl:rg _ _ _ [iV x1.Id,.string x1.F.Kind,v1]).rangeAt hw.in0) rfl) rfl<|aqq 2 [] rfl ?_
  obtain ⟨x2,hx2,h⟩:=bs h
  obtain ⟨cs2,F2,-,g2,hb2,hs2,r2⟩:=ph1.el (a7 hx2).2.2
  obtain ⟨v2,G2,rfl,hq2,h2⟩:=r2
  obtain rfl:=hq2.symm
  refine qq (a8 rP rfl rfl ph1 hx2) rfl<|qq (aq Dl rfl (fun w1 hw=>(g2.of_eq 0 3 rfl rfl:rg _ _ _ [iV x2.Id,.string x2.F.Kind,v2]).rangeAt hw.in0) rfl) rfl ?_
  obtain ⟨x3,hx3,h⟩:=bs h
  refine qp (bH JF rfl (fun w1 hw=>ya N (ba hw.in0) x1 x2 h1 h2 hx3)) rfl<|aqt 2 [] rfl ?_
  refine ch h rfl ?_ ?_ <;> intro h
  ·refine att 4 [] rfl ?_
   exact rt hF h
  refine att 7 [] rfl ?_
  exact lb [] [] (ih1 _ h)
 refine att 5 [] rfl ?_
 exact rt hF h
theorem wa (w0:af Ψ Φ []) (p0:ae) (p1:ae) (ph0_0:RSl bn 3 Ψ pG0_0 pv0_0 p0.Items) (ph1_0:RSl bn 3 Ψ pG1_0 pv1_0 p1.Items) {r:Bool} (h:lT N p0 p1=some r) :
  CB w0 prog 14 [.agg [pv0_0,iV p0.Next].toArray,.agg [pv1_0,iV p1.Next].toArray] (.bool r):=by
 refine eN func14 rfl ntmps14 rfl w0 fun hF=>?_
 unfold lT at h
 refine sr<|lbx rfl fun b_1=>lbx rfl fun b_2=>arr 9 [0,32,0,0] rfl<|qd h (xe N · p0.Items p1.Items ph0_0 ph1_0 ·) rfl rfl rfl fun x1 h=>la rfl<|en ?_
 refine ch h rfl ?_ ?_ <;> intro h
 ·refine att 4 [] rfl ?_
  exact rt hF h
 refine att 10 [1,32,1,0] rfl ?_
 refine ch h rfl ?_ ?_ <;> intro h
 ·refine att 4 [] rfl ?_
  exact rt hF h
 refine att 5 [] rfl ?_
 exact rt hF h
theorem qX (w0:af Ψ Φ []) (p0:bh) (p1:aJ) (p2:ae) (ph0_0:RSl bV 5 Ψ pG0_0 pv0_0 p0.Rules) (ph1_0:RSl dp 1 Ψ pG1_0 pv1_0 p1.Alphas) (ph1_1:RSl ff 1 Ψ pG1_1 pv1_1 p1.Rules) (ph2_0:RSl bn 3 Ψ pG2_0 pv2_0 p2.Items) {r:Bool} (h:ey N p0 p1 p2=some r) :
  CB w0 prog 3 [.agg [.string p0.Name,pv0_0].toArray,.agg [pv1_0,pv1_1].toArray,.agg [pv2_0,iV p2.Next].toArray] (.bool r):=by
 refine eN func3 rfl ntmps3 rfl w0 fun hF=>?_
 unfold ey at h
 refine sr<|lbx rfl fun b_1=>lbx rfl fun b_2=>lbx rfl fun b_3=>arr 10 [66] rfl<|qd h (AK N · p0 1048576 ph0_0 ·) rfl rfl rfl fun x1 h=>art 8 [] rfl ?_
 refine ch h rfl ?_ ?_ <;> intro h
 ·refine att 4 [] rfl ?_
  exact rt hF h
 refine atr 5 [34] rfl<|qd h (AF N · p1 x1 ph1_0 ph1_1 ·) rfl rfl rfl fun x2 h=>art 8 [] rfl ?_
 refine ch h rfl ?_ ?_ <;> intro h
 ·refine att 4 [] rfl ?_
  exact rt hF h
 refine atr 5 [2] rfl<|qd h (vK N · p2 x2 ph2_0 ·) rfl rfl rfl fun x3 h=>art 8 [] rfl ?_
 refine ch h rfl ?_ ?_ <;> intro h
 ·refine att 4 [] rfl ?_
  exact rt hF h
 refine att 2 [] rfl<|wm [0,1,2] [] rfl<|amm 3 [0,66,2,34,4,2] [0,1,2] rfl rfl ?_
 obtain ⟨x4,hx4,h⟩:=bs h
 refine WM.one 1 (by kernel_rfl) (mc rfl (fun _ v Φx D w1 hq hw=>Kn.of Kf.nil (ai3 0 1 2 rfl rfl rfl) hw) (cW (js:=[]) (R:=[]) I7 rfl rfl (fun w1 hw ap hl=>qZ N (ba hw.fro) p0 (ph0_0.y hw.up)  hx4)) rfl ?_)
 rintro v1 Φ_1 F1 ⟨ap1,fr1,v2,D1,rfl,rfl,h1⟩
 obtain ⟨x5,hx5,h⟩:=bs h
 refine WM.one 3 (by kernel_rfl) (mc rfl (fun _ v Φx D w1 hq hw=>Kn.of Kf.nil (ai3 0 1 2 rfl rfl rfl) hw) (cW (js:=[]) (R:=[ob v2,D1]) HX rfl rfl (fun w1 hw ap hl=>qW N (ba hw.fro) p1 (ph1_0.y hw.up) (ph1_1.y hw.up)  hx5)) rfl ?_)
 rintro v3 Φ_2 F2 ⟨ap2,fr2,v4,D2,v5,D3,rfl,rfl,h2,h3⟩
 replace h1:=h1.fr fr2 (ap2.q 0 rfl) (ap2.q 1 rfl)
 obtain ⟨x6,hx6,h⟩:=bs h
 refine WM.one 5 (by kernel_rfl) (mc rfl (fun _ v Φx D w1 hq hw=>Kn.of Kf.nil (ai3 0 1 2 rfl rfl rfl) hw) (cW (js:=[]) (R:=[ob v4,D2,ob v5,D3,ob v2,D1]) Gb rfl rfl (fun w1 hw ap hl=>oI N (ba hw.fro) p2 (ph2_0.y hw.up)  hx6)) rfl ?_)
 rintro v6 Φ_3 F3 ⟨ap3,fr3,v7,D4,rfl,rfl,h4⟩
 replace h1:=h1.fr fr3 (ap3.q 4 rfl) (ap3.q 5 rfl)
 replace h2:=h2.fr fr3 (ap3.q 0 rfl) (ap3.q 1 rfl)
 replace h3:=h3.fr fr3 (ap3.q 2 rfl) (ap3.q 3 rfl)
 obtain ⟨x7,hx7,h⟩:=bs h
 refine on1 6 (mp rfl (kS [0,1,2]) (pcP rfl (uV N · x4 x5 x6 (h1.rslG eF.gives) (h2.rslG bv.gives) (h3.rslG bd.gives) (h4.rslG dF.gives) hx7)) rfl ?_)
 refine amm 1 [7] [0,1,2] rfl rfl<|WM.nil (by kernel_rfl)<|atr 3 [66] rfl<|kab h rfl rfl rfl (fun b z q=>qZ N b p0 (ph0_0.y z) q) ?_
 rintro x8 h v8 Φ_4 F4 ⟨ap4,fr4,v9,D5,rfl,rfl,h5⟩
 refine lnz Gx rfl fun b_4=>soN 0 I3 rfl ⟨rfl,h5.one,trivial⟩ rfl ?_
 refine arr 4 [66] rfl<|kab h rfl rfl rfl (fun b z q=>qW N b p1 (ph1_0.y z) (ph1_1.y z) q) ?_
 rintro x9 h v10 Φ_5 F5 ⟨ap5,fr5,v11,D6,v12,D7,rfl,rfl,h6,h7⟩
 replace h5:=h5.fr fr5 (ap5.q 0 rfl) (ap5.q 1 rfl)
 refine lnz pj rfl fun b_5=>soN 0 rG rfl ⟨h6.one,h7.one,trivial⟩ rfl ?_
 refine arr 4 [66] rfl<|kab h rfl rfl rfl (fun b z q=>oI N b p2 (ph2_0.y z) q) ?_
 rintro x10 h v13 Φ_6 F6 ⟨ap6,fr6,v14,D8,rfl,rfl,h8⟩
 replace h5:=h5.fr fr6 (ap6.q 4 rfl) (ap6.q 5 rfl)
 replace h6:=h6.fr fr6 (ap6.q 0 rfl) (ap6.q 1 rfl)
 replace h7:=h7.fr fr6 (ap6.q 2 rfl) (ap6.q 3 rfl)
 refine lnz C7 rfl fun b_6=>soN 0 HW rfl ⟨h8.one,rfl,trivial⟩ rfl ?_
 refine arr 6 [66,34,2] rfl<|qc h (uY N · x8 x9 x10 (h5.rslG eF.gives) (h6.rslG bv.gives) (h7.rslG bd.gives) (h8.rslG dF.gives) ·) rfl rfl rfl fun x11 h=>arr 7 [] rfl<|lq (FT HE rfl rfl) rfl<|en ?_
 refine ch h rfl ?_ ?_ <;> intro h
 ·refine att 4 [] rfl ?_
  exact rt hF h
 refine att 3 [] rfl<|wm [0,1,2,3,4,5] [] rfl<|amm 2 [0,66,1,162] [0,1,2,3,4,5] rfl rfl ?_
 obtain ⟨x12,hx12,h⟩:=bs h
 refine WM.one 2 (by kernel_rfl) (mc rfl (fun _ v Φx D w1 hq hw=>Kn.of Kf.nil (am [0,1,2,3,4,5] rfl) hw) (cW (js:=[]) (R:=[ob v14,D8,ob v11,D6,ob v12,D7,ob v9,D5,ob v7,D4,ob v4,D2,ob v5,D3,ob v2,D1]) I7 rfl rfl (fun w1 hw ap hl=>qZ N (ba hw.fro) p0 (ph0_0.y hw.up)  hx12)) rfl ?_)
 rintro v15 Φ_7 F7 ⟨ap7,fr7,v16,D9,rfl,rfl,h9⟩
 replace h5:=h5.fr fr7 (ap7.q 6 rfl) (ap7.q 7 rfl)
 replace h6:=h6.fr fr7 (ap7.q 2 rfl) (ap7.q 3 rfl)
 replace h7:=h7.fr fr7 (ap7.q 4 rfl) (ap7.q 5 rfl)
 replace h8:=h8.fr fr7 (ap7.q 0 rfl) (ap7.q 1 rfl)
 obtain ⟨x13,hx13,h⟩:=bs h
 refine on1 3 (mp rfl (kS [0,1,2,3,4,5]) (pcP rfl (Ax N · x8 x12 (h5.rslG eF.gives) (h9.rslG eF.gives) hx13)) rfl ?_)
 refine amm 1 [4] [0,1,2,3,4,5] rfl rfl<|WM.nil (by kernel_rfl) ?_
 refine ch h rfl ?_ ?_ <;> intro h
 ·refine att 4 [] rfl ?_
  exact rt hF h
 refine att 3 [] rfl<|wm [0,1,2,3,4,5] [] rfl<|amm 2 [0,34,1,130] [0,1,2,3,4,5] rfl rfl ?_
 obtain ⟨x14,hx14,h⟩:=bs h
 refine WM.one 2 (by kernel_rfl) (mc rfl (fun _ v Φx D w1 hq hw=>Kn.of Kf.nil (am [0,1,2,3,4,5] rfl) hw) (cW (js:=[]) (R:=[ob v16,D9,ob v14,D8,ob v11,D6,ob v12,D7,ob v9,D5,ob v7,D4,ob v4,D2,ob v5,D3,ob v2,D1]) HX rfl rfl (fun w1 hw ap hl=>qW N (ba hw.fro) p1 (ph1_0.y hw.up) (ph1_1.y hw.up)  hx14)) rfl ?_)
 rintro v17 Φ_8 F8 ⟨ap8,fr8,v18,D10,v19,D11,rfl,rfl,h10,h11⟩
 replace h6:=h6.fr fr8 (ap8.q 4 rfl) (ap8.q 5 rfl)
 replace h7:=h7.fr fr8 (ap8.q 6 rfl) (ap8.q 7 rfl)
 replace h8:=h8.fr fr8 (ap8.q 2 rfl) (ap8.q 3 rfl)
 obtain ⟨x15,hx15,h⟩:=bs h
 refine on1 3 (mp rfl (kS [0,1,2,3,4,5]) (pcP rfl (BQ N · x9 x14 (h6.rslG bv.gives) (h7.rslG bd.gives) (h10.rslG bv.gives) (h11.rslG bd.gives) hx15)) rfl ?_)
 refine amm 1 [4] [0,1,2,3,4,5] rfl rfl<|WM.nil (by kernel_rfl) ?_
 refine ch h rfl ?_ ?_ <;> intro h
 ·refine att 4 [] rfl ?_
  exact rt hF h
 refine att 3 [] rfl<|wm [0,1,2,3,4,5] [] rfl<|amm 2 [0,2,1,98] [0,1,2,3,4,5] rfl rfl ?_
 obtain ⟨x16,hx16,h⟩:=bs h
 refine WM.one 2 (by kernel_rfl) (mc rfl (fun _ v Φx D w1 hq hw=>Kn.of Kf.nil (am [0,1,2,3,4,5] rfl) hw) (cW (js:=[]) (R:=[ob v18,D10,ob v19,D11,ob v16,D9,ob v14,D8,ob v11,D6,ob v12,D7,ob v9,D5,ob v7,D4,ob v4,D2,ob v5,D3,ob v2,D1]) Gb rfl rfl (fun w1 hw ap hl=>oI N (ba hw.fro) p2 (ph2_0.y hw.up)  hx16)) rfl ?_)
 rintro v20 Φ_9 F9 ⟨ap9,fr9,v21,D12,rfl,rfl,h12⟩
 replace h8:=h8.fr fr9 (ap9.q 6 rfl) (ap9.q 7 rfl)
 obtain ⟨x17,hx17,h⟩:=bs h
 refine on1 3 (mp rfl (kS [0,1,2,3,4,5]) (pcP rfl (wa N · x10 x16 (h8.rslG dF.gives) (h12.rslG dF.gives) hx17)) rfl ?_)
 refine amm 1 [4] [0,1,2,3,4,5] rfl rfl<|WM.nil (by kernel_rfl) ?_
 refine ch h rfl ?_ ?_ <;> intro h
 ·refine att 4 [] rfl ?_
  exact rt hF h
 refine att 5 [] rfl ?_
 exact rt hF h
end Go.Proofs.YtiljnppocjgkkaaGreat
