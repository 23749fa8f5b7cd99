/- Printed by a program of ours: each Go function computes its Lean function. -/
import Derived.Test.YtnnkgijdbebnaaaGreatProg
import Derived.Test.YtnnkgijdbebnaaaGreatWExactAddItemWalk7
namespace Go.Proofs.YtnnkgijdbebnaaaGreat
open Eng Tryz
open Go.RowKit (Below)
set_option linter.unusedVariables false
set_option linter.unusedSimpArgs false

set_option maxRecDepth 100000
set_option maxHeartbeats 1000000
variable {Ψ Φ:Hp} {pv0 pv1 pv0_0 pv1_0 pv0_1 pv0_2 pv1_1 pv1_2:Value} {pG0 pG1 pG0_0 pG1_0 pG0_1 pG0_2 pG1_1 pG1_2 pD0 pD0_0 pD0_1:List Nat} (N:Nat)
theorem Bn  (w0:af Ψ Φ []) (p0:bn) (p1:bn)  {r:Bool} (h:nO N p0 p1=some r) :
  CB w0 prog 184 [.agg [iV p0.Op,iV p0.L.K,.string p0.L.S,iV p0.L.V.K,iV p0.L.V.N,.string p0.L.V.S,iV p0.R.K,.string p0.R.S,iV p0.R.V.K,iV p0.R.V.N,.string p0.R.V.S].toArray,.agg [iV p1.Op,iV p1.L.K,.string p1.L.S,iV p1.L.V.K,iV p1.L.V.N,.string p1.L.V.S,iV p1.R.K,.string p1.R.S,iV p1.R.V.K,iV p1.R.V.N,.string p1.R.V.S].toArray] (.bool r):=by
 refine eN func184 rfl ntmps184 rfl w0 fun hF=>?_
 unfold nO at h
 refine sr<|lbx rfl fun b_1=>lbx rfl fun b_2=>art 11 [0,32,0,0] rfl ?_
 refine ch h rfl ?_ ?_ <;> intro h
 ·refine att 4 [] rfl ?_
  exact rt hF h
 refine atr 8 [1,37,1,5] rfl<|qc h (nf N · p0.L p1.L ·) rfl rfl rfl fun x1 h=>la rfl<|en ?_
 refine ch h rfl ?_ ?_ <;> intro h
 ·refine att 4 [] rfl ?_
  exact rt hF h
 refine atr 8 [6,37,6,5] rfl<|qc h (nf N · p0.R p1.R ·) rfl rfl rfl fun x2 h=>la rfl<|en ?_
 refine ch h rfl ?_ ?_ <;> intro h
 ·refine att 4 [] rfl ?_
  exact rt hF h
 refine att 5 [] rfl ?_
 exact rt hF h
theorem ze (w0:af Ψ Φ []) (p0:(List bn)) (p1:(List bn)) (ph0:RSl bd 11 Ψ pG0 pv0 p0) (ph1:RSl bd 11 Ψ pG1 pv1 p1) {r:Bool} (h:oD N p0 p1=some r) :
  CB w0 prog 141 [pv0,pv1] (.bool r):=by
 refine eN func141 rfl ntmps141 rfl w0 fun hF=>?_
 unfold oD at h
 refine atr 8 [] rfl<|lnr ph0 rfl<|la rfl<|lnr ph1 rfl<|la rfl<|en ?_
 refine ch h rfl ?_ ?_ <;> intro h
 ·refine att 4 [] rfl ?_
  exact rt hF h
 refine att 7 [] rfl ?_
 refine lin (σ:=Int) (fun s=>[(0,pv0),(1,pv1),(5,iV s)]) (fun s=>St w0 Φ [] []) (fun m s=>iz N p0 p1 m s=some r) (0) N h (sx [] []) (fun n1 ih1 s hm=>?_)
 revert hm; revert s; intro s1 hm
 have h:iz N p0 p1 (n1+1) s1=some r:=hm
 show WT _ _ [(0,pv0),(1,pv1),(5,iV s1)] (St w0 Φ [] [])
 unfold iz at h
 refine atr 5 [] rfl<|lnr ph0 rfl<|la rfl<|en ?_
 refine ch h rfl ?_ ?_ <;> intro h
 ·refine att 4 [] rfl<|WT.draw co (by kernel_rfl) (fun _ h=>h.drew)<|aqq 2 [] rfl ?_
  obtain ⟨x1,hx1,h⟩:=bs h
  obtain ⟨cs1,F1,-,g1,hb1,hs1,r1⟩:=ph0.el (a7 hx1).2.2
  obtain ⟨rfl,-⟩:=r1
  refine qq (a8 GD rfl rfl ph0 hx1) rfl<|qq (ao GG rfl (fun w1 hw=>(g1.of_eq 0 11 rfl rfl:rg _ _ _ [iV x1.Op,iV x1.L.K,.string x1.L.S,iV x1.L.V.K,iV x1.L.V.N,.string x1.L.V.S,iV x1.R.K,.string x1.R.S,iV x1.R.V.K,iV x1.R.V.N,.string x1.R.V.S]).rangeAt hw.in0) rfl) rfl<|aqq 2 [] rfl ?_
  obtain ⟨x2,hx2,h⟩:=bs h
  obtain ⟨cs2,F2,-,g2,hb2,hs2,r2⟩:=ph1.el (a7 hx2).2.2
  obtain ⟨rfl,-⟩:=r2
  refine qq (a8 GD rfl rfl ph1 hx2) rfl<|qq (ao GG rfl (fun w1 hw=>(g2.of_eq 0 11 rfl rfl:rg _ _ _ [iV x2.Op,iV x2.L.K,.string x2.L.S,iV x2.L.V.K,iV x2.L.V.N,.string x2.L.V.S,iV x2.R.K,.string x2.R.S,iV x2.R.V.K,iV x2.R.V.N,.string x2.R.V.S]).rangeAt hw.in0) rfl) rfl ?_
  obtain ⟨x3,hx3,h⟩:=bs h
  refine qp (bP Ky rfl (fun w1 hw=>Bn N (ba hw.fro) x1 x2 hx3)) rfl<|aqt 2 [] rfl ?_
  refine ch h rfl ?_ ?_ <;> intro h
  ·refine att 4 [] rfl ?_
   exact rt hF h
  refine att 7 [] rfl ?_
  exact lb [] [] (ih1 _ h)
 refine att 5 [] rfl ?_
 exact rt hF h
theorem CI  (w0:af Ψ Φ []) (p0:bk) (p1:bk)  {r:Bool} (h:nG N p0 p1=some r) :
  CB w0 prog 239 [.agg [.string p0.Op,iV p0.L.K,.string p0.L.S,iV p0.L.V.K,iV p0.L.V.N,.string p0.L.V.S,iV p0.R.K,.string p0.R.S,iV p0.R.V.K,iV p0.R.V.N,.string p0.R.V.S].toArray,.agg [.string p1.Op,iV p1.L.K,.string p1.L.S,iV p1.L.V.K,iV p1.L.V.N,.string p1.L.V.S,iV p1.R.K,.string p1.R.S,iV p1.R.V.K,iV p1.R.V.N,.string p1.R.V.S].toArray] (.bool r):=by
 refine eN func239 rfl ntmps239 rfl w0 fun hF=>?_
 unfold nG at h
 refine sr<|lbx rfl fun b_1=>lbx rfl fun b_2=>art 11 [0,32,0,0] rfl ?_
 refine ch h rfl ?_ ?_ <;> intro h
 ·refine att 4 [] rfl ?_
  exact rt hF h
 refine atr 8 [1,37,1,5] rfl<|qc h (nf N · p0.L p1.L ·) rfl rfl rfl fun x1 h=>la rfl<|en ?_
 refine ch h rfl ?_ ?_ <;> intro h
 ·refine att 4 [] rfl ?_
  exact rt hF h
 refine atr 8 [6,37,6,5] rfl<|qc h (nf N · p0.R p1.R ·) rfl rfl rfl fun x2 h=>la rfl<|en ?_
 refine ch h rfl ?_ ?_ <;> intro h
 ·refine att 4 [] rfl ?_
  exact rt hF h
 refine att 5 [] rfl ?_
 exact rt hF h
theorem zE (w0:af Ψ Φ []) (p0:(List bk)) (p1:(List bk)) (ph0:RSl bu 11 Ψ pG0 pv0 p0) (ph1:RSl bu 11 Ψ pG1 pv1 p1) {r:Bool} (h:pb N p0 p1=some r) :
  CB w0 prog 218 [pv0,pv1] (.bool r):=by
 refine eN func218 rfl ntmps218 rfl w0 fun hF=>?_
 unfold pb at h
 refine atr 8 [] rfl<|lnr ph0 rfl<|la rfl<|lnr ph1 rfl<|la rfl<|en ?_
 refine ch h rfl ?_ ?_ <;> intro h
 ·refine att 4 [] rfl ?_
  exact rt hF h
 refine att 7 [] rfl ?_
 refine lin (σ:=Int) (fun s=>[(0,pv0),(1,pv1),(5,iV s)]) (fun s=>St w0 Φ [] []) (fun m s=>ij N p0 p1 m s=some r) (0) N h (sx [] []) (fun n1 ih1 s hm=>?_)
 revert hm; revert s; intro s1 hm
 have h:ij N p0 p1 (n1+1) s1=some r:=hm
 show WT _ _ [(0,pv0),(1,pv1),(5,iV s1)] (St w0 Φ [] [])
 unfold ij at h
 refine atr 5 [] rfl<|lnr ph0 rfl<|la rfl<|en ?_
 refine ch h rfl ?_ ?_ <;> intro h
 ·refine att 4 [] rfl<|WT.draw co (by kernel_rfl) (fun _ h=>h.drew)<|aqq 2 [] rfl ?_
  obtain ⟨x1,hx1,h⟩:=bs h
  obtain ⟨cs1,F1,-,g1,hb1,hs1,r1⟩:=ph0.el (a7 hx1).2.2
  obtain ⟨rfl,-⟩:=r1
  refine qq (a8 H1 rfl rfl ph0 hx1) rfl<|qq (ao Hf rfl (fun w1 hw=>(g1.of_eq 0 11 rfl rfl:rg _ _ _ [.string x1.Op,iV x1.L.K,.string x1.L.S,iV x1.L.V.K,iV x1.L.V.N,.string x1.L.V.S,iV x1.R.K,.string x1.R.S,iV x1.R.V.K,iV x1.R.V.N,.string x1.R.V.S]).rangeAt hw.in0) rfl) rfl<|aqq 2 [] rfl ?_
  obtain ⟨x2,hx2,h⟩:=bs h
  obtain ⟨cs2,F2,-,g2,hb2,hs2,r2⟩:=ph1.el (a7 hx2).2.2
  obtain ⟨rfl,-⟩:=r2
  refine qq (a8 H1 rfl rfl ph1 hx2) rfl<|qq (ao Hf rfl (fun w1 hw=>(g2.of_eq 0 11 rfl rfl:rg _ _ _ [.string x2.Op,iV x2.L.K,.string x2.L.S,iV x2.L.V.K,iV x2.L.V.N,.string x2.L.V.S,iV x2.R.K,.string x2.R.S,iV x2.R.V.K,iV x2.R.V.N,.string x2.R.V.S]).rangeAt hw.in0) rfl) rfl ?_
  obtain ⟨x3,hx3,h⟩:=bs h
  refine qp (bP JX rfl (fun w1 hw=>CI N (ba hw.fro) x1 x2 hx3)) rfl<|aqt 2 [] rfl ?_
  refine ch h rfl ?_ ?_ <;> intro h
  ·refine att 4 [] rfl ?_
   exact rt hF h
  refine att 7 [] rfl ?_
  exact lb [] [] (ih1 _ h)
 refine att 5 [] rfl ?_
 exact rt hF h
theorem EO (w0:af Ψ Φ []) (p0:bM) (p1:bM) (ph0_0:RSl bu 11 Ψ pG0_0 pv0_0 p0.Args) (ph1_0:RSl bu 11 Ψ pG1_0 pv1_0 p1.Args) {r:Bool} (h:qm N p0 p1=some r) :
  CB w0 prog 185 [.agg [iV p0.Kind,.string p0.Name,pv0_0,iV p0.N,.string p0.Undo].toArray,.agg [iV p1.Kind,.string p1.Name,pv1_0,iV p1.N,.string p1.Undo].toArray] (.bool r):=by
 refine eN func185 rfl ntmps185 rfl w0 fun hF=>?_
 unfold qm at h
 refine sr<|lbx rfl fun b_1=>lbx rfl fun b_2=>art 11 [0,32,0,0] rfl ?_
 refine ch h rfl ?_ ?_ <;> intro h
 ·refine att 4 [] rfl ?_
  exact rt hF h
 refine att 10 [1,32,1,0] rfl ?_
 refine ch h rfl ?_ ?_ <;> intro h
 ·refine att 4 [] rfl ?_
  exact rt hF h
 refine atr 8 [2,32,2,0] rfl<|qd h (zE N · p0.Args p1.Args ph0_0 ph1_0 ·) rfl rfl rfl fun x1 h=>la rfl<|en ?_
 refine ch h rfl ?_ ?_ <;> intro h
 ·refine att 4 [] rfl ?_
  exact rt hF h
 refine att 10 [3,32,3,0] rfl ?_
 refine ch h rfl ?_ ?_ <;> intro h
 ·refine att 4 [] rfl ?_
  exact rt hF h
 refine att 10 [4,32,4,0] rfl ?_
 refine ch h rfl ?_ ?_ <;> intro h
 ·refine att 4 [] rfl ?_
  exact rt hF h
 refine att 5 [] rfl ?_
 exact rt hF h
theorem B9 (w0:af Ψ Φ []) (p0:(List bM)) (p1:(List bM)) (ph0:RSl dF 5 Ψ pG0 pv0 p0) (ph1:RSl dF 5 Ψ pG1 pv1 p1) {r:Bool} (h:rU N p0 p1=some r) :
  CB w0 prog 142 [pv0,pv1] (.bool r):=by
 refine eN func142 rfl ntmps142 rfl w0 fun hF=>?_
 unfold rU at h
 refine atr 8 [] rfl<|lnr ph0 rfl<|la rfl<|lnr ph1 rfl<|la rfl<|en ?_
 refine ch h rfl ?_ ?_ <;> intro h
 ·refine att 4 [] rfl ?_
  exact rt hF h
 refine att 7 [] rfl ?_
 refine lin (σ:=Int) (fun s=>[(0,pv0),(1,pv1),(5,iV s)]) (fun s=>St w0 Φ [] []) (fun m s=>jy N p0 p1 m s=some r) (0) N h (sx [] []) (fun n1 ih1 s hm=>?_)
 revert hm; revert s; intro s1 hm
 have h:jy N p0 p1 (n1+1) s1=some r:=hm
 show WT _ _ [(0,pv0),(1,pv1),(5,iV s1)] (St w0 Φ [] [])
 unfold jy at h
 refine atr 5 [] rfl<|lnr ph0 rfl<|la rfl<|en ?_
 refine ch h rfl ?_ ?_ <;> intro h
 ·refine att 4 [] rfl<|WT.draw co (by kernel_rfl) (fun _ h=>h.drew)<|aqq 2 [] rfl ?_
  obtain ⟨x1,hx1,h⟩:=bs h
  obtain ⟨cs1,F1,-,g1,hb1,hs1,r1⟩:=ph0.el (a7 hx1).2.2
  obtain ⟨v1,G1,rfl,hq1,h1⟩:=r1
  obtain rfl:=hq1.symm
  refine qq (a8 GV rfl rfl ph0 hx1) rfl<|qq (ao DO rfl (fun w1 hw=>(g1.of_eq 0 5 rfl rfl:rg _ _ _ [iV x1.Kind,.string x1.Name,v1,iV x1.N,.string x1.Undo]).rangeAt hw.in0) rfl) rfl<|aqq 2 [] rfl ?_
  obtain ⟨x2,hx2,h⟩:=bs h
  obtain ⟨cs2,F2,-,g2,hb2,hs2,r2⟩:=ph1.el (a7 hx2).2.2
  obtain ⟨v2,G2,rfl,hq2,h2⟩:=r2
  obtain rfl:=hq2.symm
  refine qq (a8 GV rfl rfl ph1 hx2) rfl<|qq (ao DO rfl (fun w1 hw=>(g2.of_eq 0 5 rfl rfl:rg _ _ _ [iV x2.Kind,.string x2.Name,v2,iV x2.N,.string x2.Undo]).rangeAt hw.in0) rfl) rfl ?_
  obtain ⟨x3,hx3,h⟩:=bs h
  refine qp (bP JY rfl (fun w1 hw=>EO N (ba hw.in0) x1 x2 h1 h2 hx3)) rfl<|aqt 2 [] rfl ?_
  refine ch h rfl ?_ ?_ <;> intro h
  ·refine att 4 [] rfl ?_
   exact rt hF h
  refine att 7 [] rfl ?_
  exact lb [] [] (ih1 _ h)
 refine att 5 [] rfl ?_
 exact rt hF h
theorem Ca (w0:af Ψ Φ []) (p0:ag) (p1:ag) (ph0_0:RSl bJ 3 Ψ pG0_0 pv0_0 p0.Pats) (ph0_1:RSl bd 11 Ψ pG0_1 pv0_1 p0.Conds) (ph0_2:RSl dF 5 Ψ pG0_2 pv0_2 p0.Acts) (ph1_0:RSl bJ 3 Ψ pG1_0 pv1_0 p1.Pats) (ph1_1:RSl bd 11 Ψ pG1_1 pv1_1 p1.Conds) (ph1_2:RSl dF 5 Ψ pG1_2 pv1_2 p1.Acts) {r:Bool} (h:o1 N p0 p1=some r) :
  CB w0 prog 85 [.agg [.string p0.Name,iV p0.Sal,pv0_0,pv0_1,pv0_2].toArray,.agg [.string p1.Name,iV p1.Sal,pv1_0,pv1_1,pv1_2].toArray] (.bool r):=by
 refine eN func85 rfl ntmps85 rfl w0 fun hF=>?_
 unfold o1 at h
 refine sr<|lbx rfl fun b_1=>lbx rfl fun b_2=>art 11 [0,32,0,0] rfl ?_
 refine ch h rfl ?_ ?_ <;> intro h
 ·refine att 4 [] rfl ?_
  exact rt hF h
 refine att 10 [1,32,1,0] rfl ?_
 refine ch h rfl ?_ ?_ <;> intro h
 ·refine att 4 [] rfl ?_
  exact rt hF h
 refine atr 8 [2,32,2,0] rfl<|qd h (Ct N · p0.Pats p1.Pats ph0_0 ph1_0 ·) rfl rfl rfl fun x1 h=>la rfl<|en ?_
 refine ch h rfl ?_ ?_ <;> intro h
 ·refine att 4 [] rfl ?_
  exact rt hF h
 refine atr 8 [3,32,3,0] rfl<|qd h (ze N · p0.Conds p1.Conds ph0_1 ph1_1 ·) rfl rfl rfl fun x2 h=>la rfl<|en ?_
 refine ch h rfl ?_ ?_ <;> intro h
 ·refine att 4 [] rfl ?_
  exact rt hF h
 refine atr 8 [4,32,4,0] rfl<|qd h (B9 N · p0.Acts p1.Acts ph0_2 ph1_2 ·) rfl rfl rfl fun x3 h=>la rfl<|en ?_
 refine ch h rfl ?_ ?_ <;> intro h
 ·refine att 4 [] rfl ?_
  exact rt hF h
 refine att 5 [] rfl ?_
 exact rt hF h
theorem Ao (w0:af Ψ Φ []) (p0:(List ag)) (p1:(List ag)) (ph0:RSl cf 5 Ψ pG0 pv0 p0) (ph1:RSl cf 5 Ψ pG1 pv1 p1) {r:Bool} (h:p9 N p0 p1=some r) :
  CB w0 prog 43 [pv0,pv1] (.bool r):=by
 refine eN func43 rfl ntmps43 rfl w0 fun hF=>?_
 unfold p9 at h
 refine atr 8 [] rfl<|lnr ph0 rfl<|la rfl<|lnr ph1 rfl<|la rfl<|en ?_
 refine ch h rfl ?_ ?_ <;> intro h
 ·refine att 4 [] rfl ?_
  exact rt hF h
 refine att 7 [] rfl ?_
 refine lin (σ:=Int) (fun s=>[(0,pv0),(1,pv1),(5,iV s)]) (fun s=>St w0 Φ [] []) (fun m s=>ir N p0 p1 m s=some r) (0) N h (sx [] []) (fun n1 ih1 s hm=>?_)
 revert hm; revert s; intro s1 hm
 have h:ir N p0 p1 (n1+1) s1=some r:=hm
 show WT _ _ [(0,pv0),(1,pv1),(5,iV s1)] (St w0 Φ [] [])
 unfold ir at h
 refine atr 5 [] rfl<|lnr ph0 rfl<|la rfl<|en ?_
 refine ch h rfl ?_ ?_ <;> intro h
 ·refine att 4 [] rfl<|WT.draw co (by kernel_rfl) (fun _ h=>h.drew)<|aqq 2 [] rfl ?_
  obtain ⟨x1,hx1,h⟩:=bs h
  obtain ⟨cs1,F1,-,g1,hb1,hs1,r1⟩:=ph0.el (a7 hx1).2.2
  obtain ⟨v1,G1,v2,G2,v3,G3,rfl,rfl,h1,h2,h3⟩:=r1
  refine qq (a8 CR rfl rfl ph0 hx1) rfl<|qq (ao pn rfl (fun w1 hw=>(g1.of_eq 0 5 rfl rfl:rg _ _ _ [.string x1.Name,iV x1.Sal,v1,v2,v3]).rangeAt hw.in0) rfl) rfl<|aqq 2 [] rfl ?_
  obtain ⟨x2,hx2,h⟩:=bs h
  obtain ⟨cs2,F2,-,g2,hb2,hs2,r2⟩:=ph1.el (a7 hx2).2.2
  obtain ⟨v4,G4,v5,G5,v6,G6,rfl,rfl,h4,h5,h6⟩:=r2
  refine qq (a8 CR rfl rfl ph1 hx2) rfl<|qq (ao pn rfl (fun w1 hw=>(g2.of_eq 0 5 rfl rfl:rg _ _ _ [.string x2.Name,iV x2.Sal,v4,v5,v6]).rangeAt hw.in0) rfl) rfl ?_
  obtain ⟨x3,hx3,h⟩:=bs h
  refine qp (bP Mv rfl (fun w1 hw=>Ca N (ba hw.in0) x1 x2 h1 h2 h3 h4 h5 h6 hx3)) rfl<|aqt 2 [] rfl ?_
  refine ch h rfl ?_ ?_ <;> intro h
  ·refine att 4 [] rfl ?_
   exact rt hF h
  refine att 7 [] rfl ?_
  exact lb [] [] (ih1 _ h)
 refine att 5 [] rfl ?_
 exact rt hF h
theorem Fk (w0:af Ψ Φ []) (p0:bo) (p1:bo) (ph0_0:RSl cf 5 Ψ pG0_0 pv0_0 p0.Rules) (ph1_0:RSl cf 5 Ψ pG1_0 pv1_0 p1.Rules) {r:Bool} (h:tp N p0 p1=some r) :
  CB w0 prog 15 [.agg [.string p0.Name,pv0_0].toArray,.agg [.string p1.Name,pv1_0].toArray] (.bool r):=by
 refine eN func15 rfl ntmps15 rfl w0 fun hF=>?_
 unfold tp at h
 refine sr<|lbx rfl fun b_1=>lbx rfl fun b_2=>art 11 [0,32,0,0] rfl ?_
 refine ch h rfl ?_ ?_ <;> intro h
 ·refine att 4 [] rfl ?_
  exact rt hF h
 refine atr 8 [1,32,1,0] rfl<|qd h (Ao N · p0.Rules p1.Rules ph0_0 ph1_0 ·) rfl rfl rfl fun x1 h=>la rfl<|en ?_
 refine ch h rfl ?_ ?_ <;> intro h
 ·refine att 4 [] rfl ?_
  exact rt hF h
 refine att 5 [] rfl ?_
 exact rt hF h
theorem vk (w0:af Ψ Φ []) (p0:(List aL)) (p1:(List aL)) (ph0:RSl az 3 Ψ pG0 pv0 p0) (ph1:RSl az 3 Ψ pG1 pv1 p1) {r:Bool} (h:nH N p0 p1=some r) :
  CB w0 prog 143 [pv0,pv1] (.bool r):=by
 refine eN func143 rfl ntmps143 rfl w0 fun hF=>?_
 unfold nH at h
 refine atr 8 [] rfl<|lnr ph0 rfl<|la rfl<|lnr ph1 rfl<|la rfl<|en ?_
 refine ch h rfl ?_ ?_ <;> intro h
 ·refine att 4 [] rfl ?_
  exact rt hF h
 refine att 7 [] rfl ?_
 refine lin (σ:=Int) (fun s=>[(0,pv0),(1,pv1),(5,iV s)]) (fun s=>St w0 Φ [] []) (fun m s=>jG N p0 p1 m s=some r) (0) N h (sx [] []) (fun n1 ih1 s hm=>?_)
 revert hm; revert s; intro s1 hm
 have h:jG N p0 p1 (n1+1) s1=some r:=hm
 show WT _ _ [(0,pv0),(1,pv1),(5,iV s1)] (St w0 Φ [] [])
 unfold jG at h
 refine atr 5 [] rfl<|lnr ph0 rfl<|la rfl<|en ?_
 refine ch h rfl ?_ ?_ <;> intro h
 ·refine att 4 [] rfl<|WT.draw co (by kernel_rfl) (fun _ h=>h.drew)<|aqq 2 [] rfl ?_
  obtain ⟨x1,hx1,h⟩:=bs h
  obtain ⟨cs1,F1,-,g1,hb1,hs1,r1⟩:=ph0.el (a7 hx1).2.2
  obtain ⟨rfl,-⟩:=r1
  refine qq (a8 ep rfl rfl ph0 hx1) rfl<|qq (ao iY rfl (fun w1 hw=>(g1.of_eq 0 3 rfl rfl:rg _ _ _ [iV x1.K,iV x1.N,.string x1.S]).rangeAt hw.in0) rfl) rfl<|aqq 2 [] rfl ?_
  obtain ⟨x2,hx2,h⟩:=bs h
  obtain ⟨cs2,F2,-,g2,hb2,hs2,r2⟩:=ph1.el (a7 hx2).2.2
  obtain ⟨rfl,-⟩:=r2
  refine qq (a8 ep rfl rfl ph1 hx2) rfl<|qq (ao iY rfl (fun w1 hw=>(g2.of_eq 0 3 rfl rfl:rg _ _ _ [iV x2.K,iV x2.N,.string x2.S]).rangeAt hw.in0) rfl) rfl ?_
  obtain ⟨x3,hx3,h⟩:=bs h
  refine qp (bP Kz rfl (fun w1 hw=>ww N (ba hw.fro) x1 x2 hx3)) rfl<|aqt 2 [] rfl ?_
  refine ch h rfl ?_ ?_ <;> intro h
  ·refine att 4 [] rfl ?_
   exact rt hF h
  refine att 7 [] rfl ?_
  exact lb [] [] (ih1 _ h)
 refine att 5 [] rfl ?_
 exact rt hF h
theorem zT (w0:af Ψ Φ []) (p0:a9) (p1:a9) (ph0_0:RSl az 3 Ψ pG0_0 pv0_0 p0.Consts) (ph0_1:RSl (RI .i64) 1 Ψ pG0_1 pv0_1 p0.At) (ph1_0:RSl az 3 Ψ pG1_0 pv1_0 p1.Consts) (ph1_1:RSl (RI .i64) 1 Ψ pG1_1 pv1_1 p1.At) {r:Bool} (h:lM N p0 p1=some r) :
  CB w0 prog 86 [.agg [.string p0.Kind,iV p0.N,pv0_0,pv0_1].toArray,.agg [.string p1.Kind,iV p1.N,pv1_0,pv1_1].toArray] (.bool r):=by
 refine eN func86 rfl ntmps86 rfl w0 fun hF=>?_
 unfold lM at h
 refine sr<|lbx rfl fun b_1=>lbx rfl fun b_2=>art 11 [0,32,0,0] rfl ?_
 refine ch h rfl ?_ ?_ <;> intro h
 ·refine att 4 [] rfl ?_
  exact rt hF h
 refine att 10 [1,32,1,0] rfl ?_
 refine ch h rfl ?_ ?_ <;> intro h
 ·refine att 4 [] rfl ?_
  exact rt hF h
 refine atr 8 [2,32,2,0] rfl<|qd h (vk N · p0.Consts p1.Consts ph0_0 ph1_0 ·) rfl rfl rfl fun x1 h=>la rfl<|en ?_
 refine ch h rfl ?_ ?_ <;> intro h
 ·refine att 4 [] rfl ?_
  exact rt hF h
 refine atr 8 [3,32,3,0] rfl<|qd h (jd N · p0.At p1.At ph0_1 ph1_1 ·) rfl rfl rfl fun x2 h=>la rfl<|en ?_
 refine ch h rfl ?_ ?_ <;> intro h
 ·refine att 4 [] rfl ?_
  exact rt hF h
 refine att 5 [] rfl ?_
 exact rt hF h
theorem yo (w0:af Ψ Φ []) (p0:(List a9)) (p1:(List a9)) (ph0:RSl bf 4 Ψ pG0 pv0 p0) (ph1:RSl bf 4 Ψ pG1 pv1 p1) {r:Bool} (h:nr N p0 p1=some r) :
  CB w0 prog 44 [pv0,pv1] (.bool r):=by
 refine eN func44 rfl ntmps44 rfl w0 fun hF=>?_
 unfold nr at h
 refine atr 8 [] rfl<|lnr ph0 rfl<|la rfl<|lnr ph1 rfl<|la rfl<|en ?_
 refine ch h rfl ?_ ?_ <;> intro h
 ·refine att 4 [] rfl ?_
  exact rt hF h
 refine att 7 [] rfl ?_
 refine lin (σ:=Int) (fun s=>[(0,pv0),(1,pv1),(5,iV s)]) (fun s=>St w0 Φ [] []) (fun m s=>gN N p0 p1 m s=some r) (0) N h (sx [] []) (fun n1 ih1 s hm=>?_)
 revert hm; revert s; intro s1 hm
 have h:gN N p0 p1 (n1+1) s1=some r:=hm
 show WT _ _ [(0,pv0),(1,pv1),(5,iV s1)] (St w0 Φ [] [])
 unfold gN at h
 refine atr 5 [] rfl<|lnr ph0 rfl<|la rfl<|en ?_
 refine ch h rfl ?_ ?_ <;> intro h
 ·refine att 4 [] rfl<|WT.draw co (by kernel_rfl) (fun _ h=>h.drew)<|aqq 2 [] rfl ?_
  obtain ⟨x1,hx1,h⟩:=bs h
  obtain ⟨cs1,F1,-,g1,hb1,hs1,r1⟩:=ph0.el (a7 hx1).2.2
  obtain ⟨v1,G1,v2,G2,rfl,rfl,h1,h2⟩:=r1
  refine qq (a8 uE rfl rfl ph0 hx1) rfl<|qq (ao pr rfl (fun w1 hw=>(g1.of_eq 0 4 rfl rfl:rg _ _ _ [.string x1.Kind,iV x1.N,v1,v2]).rangeAt hw.in0) rfl) rfl<|aqq 2 [] rfl ?_
  obtain ⟨x2,hx2,h⟩:=bs h
  obtain ⟨cs2,F2,-,g2,hb2,hs2,r2⟩:=ph1.el (a7 hx2).2.2
  obtain ⟨v3,G3,v4,G4,rfl,rfl,h3,h4⟩:=r2
  refine qq (a8 uE rfl rfl ph1 hx2) rfl<|qq (ao pr rfl (fun w1 hw=>(g2.of_eq 0 4 rfl rfl:rg _ _ _ [.string x2.Kind,iV x2.N,v3,v4]).rangeAt hw.in0) rfl) rfl ?_
  obtain ⟨x3,hx3,h⟩:=bs h
  refine qp (bP Ll rfl (fun w1 hw=>zT N (ba hw.in0) x1 x2 h1 h2 h3 h4 hx3)) rfl<|aqt 2 [] rfl ?_
  refine ch h rfl ?_ ?_ <;> intro h
  ·refine att 4 [] rfl ?_
   exact rt hF h
  refine att 7 [] rfl ?_
  exact lb [] [] (ih1 _ h)
 refine att 5 [] rfl ?_
 exact rt hF h
theorem Ax (w0:af Ψ Φ []) (p0:ae) (p1:ae) (ph0_0:RSl (RI .i64) 1 Ψ pG0_0 pv0_0 p0.Pos) (ph0_1:RSl (RI .i64) 1 Ψ pG0_1 pv0_1 p0.Neg) (ph1_0:RSl (RI .i64) 1 Ψ pG1_0 pv1_0 p1.Pos) (ph1_1:RSl (RI .i64) 1 Ψ pG1_1 pv1_1 p1.Neg) {r:Bool} (h:lK N p0 p1=some r) :
  CB w0 prog 87 [.agg [pv0_0,pv0_1].toArray,.agg [pv1_0,pv1_1].toArray] (.bool r):=by
 refine eN func87 rfl ntmps87 rfl w0 fun hF=>?_
 unfold lK at h
 refine sr<|lbx rfl fun b_1=>lbx rfl fun b_2=>arr 9 [0,32,0,0] rfl<|qd h (jd N · p0.Pos p1.Pos ph0_0 ph1_0 ·) rfl rfl rfl fun x1 h=>la rfl<|en ?_
 refine ch h rfl ?_ ?_ <;> intro h
 ·refine att 4 [] rfl ?_
  exact rt hF h
 refine atr 8 [1,32,1,0] rfl<|qd h (jd N · p0.Neg p1.Neg ph0_1 ph1_1 ·) rfl rfl rfl fun x2 h=>la rfl<|en ?_
 refine ch h rfl ?_ ?_ <;> intro h
 ·refine att 4 [] rfl ?_
  exact rt hF h
 refine att 5 [] rfl ?_
 exact rt hF h
theorem yw (w0:af Ψ Φ []) (p0:(List ae)) (p1:(List ae)) (ph0:RSl bz 2 Ψ pG0 pv0 p0) (ph1:RSl bz 2 Ψ pG1 pv1 p1) {r:Bool} (h:ng N p0 p1=some r) :
  CB w0 prog 45 [pv0,pv1] (.bool r):=by
 refine eN func45 rfl ntmps45 rfl w0 fun hF=>?_
 unfold ng at h
 refine atr 8 [] rfl<|lnr ph0 rfl<|la rfl<|lnr ph1 rfl<|la rfl<|en ?_
 refine ch h rfl ?_ ?_ <;> intro h
 ·refine att 4 [] rfl ?_
  exact rt hF h
 refine att 7 [] rfl ?_
 refine lin (σ:=Int) (fun s=>[(0,pv0),(1,pv1),(5,iV s)]) (fun s=>St w0 Φ [] []) (fun m s=>gG N p0 p1 m s=some r) (0) N h (sx [] []) (fun n1 ih1 s hm=>?_)
 revert hm; revert s; intro s1 hm
 have h:gG N p0 p1 (n1+1) s1=some r:=hm
 show WT _ _ [(0,pv0),(1,pv1),(5,iV s1)] (St w0 Φ [] [])
 unfold gG at h
 refine atr 5 [] rfl<|lnr ph0 rfl<|la rfl<|en ?_
 refine ch h rfl ?_ ?_ <;> intro h
 ·refine att 4 [] rfl<|WT.draw co (by kernel_rfl) (fun _ h=>h.drew)<|aqq 2 [] rfl ?_
  obtain ⟨x1,hx1,h⟩:=bs h
  obtain ⟨cs1,F1,-,g1,hb1,hs1,r1⟩:=ph0.el (a7 hx1).2.2
  obtain ⟨v1,G1,v2,G2,rfl,rfl,h1,h2⟩:=r1
  refine qq (a8 th rfl rfl ph0 hx1) rfl<|qq (ao AF rfl (fun w1 hw=>(g1.of_eq 0 2 rfl rfl:rg _ _ _ [v1,v2]).rangeAt hw.in0) rfl) rfl<|aqq 2 [] rfl ?_
  obtain ⟨x2,hx2,h⟩:=bs h
  obtain ⟨cs2,F2,-,g2,hb2,hs2,r2⟩:=ph1.el (a7 hx2).2.2
  obtain ⟨v3,G3,v4,G4,rfl,rfl,h3,h4⟩:=r2
  refine qq (a8 th rfl rfl ph1 hx2) rfl<|qq (ao AF rfl (fun w1 hw=>(g2.of_eq 0 2 rfl rfl:rg _ _ _ [v3,v4]).rangeAt hw.in0) rfl) rfl ?_
  obtain ⟨x3,hx3,h⟩:=bs h
  refine qp (bP Mn rfl (fun w1 hw=>Ax N (ba hw.in0) x1 x2 h1 h2 h3 h4 hx3)) rfl<|aqt 2 [] rfl ?_
  refine ch h rfl ?_ ?_ <;> intro h
  ·refine att 4 [] rfl ?_
   exact rt hF h
  refine att 7 [] rfl ?_
  exact lb [] [] (ih1 _ h)
 refine att 5 [] rfl ?_
 exact rt hF h
theorem E2 (w0:af Ψ Φ []) (p0:bc) (p1:bc) (ph0_0:RSl bf 4 Ψ pG0_0 pv0_0 p0.Alphas) (ph0_1:RSl bz 2 Ψ pG0_1 pv0_1 p0.Chains) (ph1_0:RSl bf 4 Ψ pG1_0 pv1_0 p1.Alphas) (ph1_1:RSl bz 2 Ψ pG1_1 pv1_1 p1.Chains) {r:Bool} (h:tv N p0 p1=some r) :
  CB w0 prog 16 [.agg [pv0_0,pv0_1].toArray,.agg [pv1_0,pv1_1].toArray] (.bool r):=by
 refine eN func16 rfl ntmps16 rfl w0 fun hF=>?_
 unfold tv at h
 refine sr<|lbx rfl fun b_1=>lbx rfl fun b_2=>arr 9 [0,32,0,0] rfl<|qd h (yo N · p0.Alphas p1.Alphas ph0_0 ph1_0 ·) rfl rfl rfl fun x1 h=>la rfl<|en ?_
 refine ch h rfl ?_ ?_ <;> intro h
 ·refine att 4 [] rfl ?_
  exact rt hF h
 refine atr 8 [1,32,1,0] rfl<|qd h (yw N · p0.Chains p1.Chains ph0_1 ph1_1 ·) rfl rfl rfl fun x2 h=>la rfl<|en ?_
 refine ch h rfl ?_ ?_ <;> intro h
 ·refine att 4 [] rfl ?_
  exact rt hF h
 refine att 5 [] rfl ?_
 exact rt hF h
theorem Bz (w0:af Ψ Φ []) (p0:aw) (p1:aw) (ph0_0:RSl az 3 Ψ pG0_0 pv0_0 p0.Fields) (ph1_0:RSl az 3 Ψ pG1_0 pv1_0 p1.Fields) {r:Bool} (h:rf N p0 p1=some r) :
  CB w0 prog 144 [.agg [.string p0.Kind,pv0_0].toArray,.agg [.string p1.Kind,pv1_0].toArray] (.bool r):=by
 refine eN func144 rfl ntmps144 rfl w0 fun hF=>?_
 unfold rf at h
 refine sr<|lbx rfl fun b_1=>lbx rfl fun b_2=>art 11 [0,32,0,0] rfl ?_
 refine ch h rfl ?_ ?_ <;> intro h
 ·refine att 4 [] rfl ?_
  exact rt hF h
 refine atr 8 [1,32,1,0] rfl<|qd h (vk N · p0.Fields p1.Fields ph0_0 ph1_0 ·) rfl rfl rfl fun x1 h=>la rfl<|en ?_
 refine ch h rfl ?_ ?_ <;> intro h
 ·refine att 4 [] rfl ?_
  exact rt hF h
 refine att 5 [] rfl ?_
 exact rt hF h
theorem Bf (w0:af Ψ Φ []) (p0:aC) (p1:aC) (ph0_0:RSl az 3 Ψ pG0_0 pv0_0 p0.F.Fields) (ph1_0:RSl az 3 Ψ pG1_0 pv1_0 p1.F.Fields) {r:Bool} (h:o5 N p0 p1=some r) :
  CB w0 prog 88 [.agg [iV p0.Id,.string p0.F.Kind,pv0_0].toArray,.agg [iV p1.Id,.string p1.F.Kind,pv1_0].toArray] (.bool r):=by
 refine eN func88 rfl ntmps88 rfl w0 fun hF=>?_
 unfold o5 at h
 refine sr<|lbx rfl fun b_1=>lbx rfl fun b_2=>art 11 [0,32,0,0] rfl ?_
 refine ch h rfl ?_ ?_ <;> intro h
 ·refine att 4 [] rfl ?_
  exact rt hF h
 refine atr 8 [1,34,1,2] rfl<|qd h (Bz N · p0.F p1.F ph0_0 ph1_0 ·) rfl rfl rfl fun x1 h=>la rfl<|en ?_
 refine ch h rfl ?_ ?_ <;> intro h
 ·refine att 4 [] rfl ?_
  exact rt hF h
 refine att 5 [] rfl ?_
 exact rt hF h
theorem A7 (w0:af Ψ Φ []) (p0:(List aC)) (p1:(List aC)) (ph0:RSl bE 3 Ψ pG0 pv0 p0) (ph1:RSl bE 3 Ψ pG1 pv1 p1) {r:Bool} (h:oJ N p0 p1=some r) :
  CB w0 prog 46 [pv0,pv1] (.bool r):=by
 refine eN func46 rfl ntmps46 rfl w0 fun hF=>?_
 unfold oJ at h
 refine atr 8 [] rfl<|lnr ph0 rfl<|la rfl<|lnr ph1 rfl<|la rfl<|en ?_
 refine ch h rfl ?_ ?_ <;> intro h
 ·refine att 4 [] rfl ?_
  exact rt hF h
 refine att 7 [] rfl ?_
 refine lin (σ:=Int) (fun s=>[(0,pv0),(1,pv1),(5,iV s)]) (fun s=>St w0 Φ [] []) (fun m s=>iA N p0 p1 m s=some r) (0) N h (sx [] []) (fun n1 ih1 s hm=>?_)
 revert hm; revert s; intro s1 hm
 have h:iA N p0 p1 (n1+1) s1=some r:=hm
 show WT _ _ [(0,pv0),(1,pv1),(5,iV s1)] (St w0 Φ [] [])
 unfold iA at h
 refine atr 5 [] rfl<|lnr ph0 rfl<|la rfl<|en ?_
 refine ch h rfl ?_ ?_ <;> intro h
 ·refine att 4 [] rfl<|WT.draw co (by kernel_rfl) (fun _ h=>h.drew)<|aqq 2 [] rfl ?_
  obtain ⟨x1,hx1,h⟩:=bs h
  obtain ⟨cs1,F1,-,g1,hb1,hs1,r1⟩:=ph0.el (a7 hx1).2.2
  obtain ⟨v1,G1,rfl,hq1,h1⟩:=r1
  obtain rfl:=hq1.symm
  refine qq (a8 xR rfl rfl ph0 hx1) rfl<|qq (ao GC rfl (fun w1 hw=>(g1.of_eq 0 3 rfl rfl:rg _ _ _ [iV x1.Id,.string x1.F.Kind,v1]).rangeAt hw.in0) rfl) rfl<|aqq 2 [] rfl ?_
  obtain ⟨x2,hx2,h⟩:=bs h
  obtain ⟨cs2,F2,-,g2,hb2,hs2,r2⟩:=ph1.el (a7 hx2).2.2
  obtain ⟨v2,G2,rfl,hq2,h2⟩:=r2
  obtain rfl:=hq2.symm
  refine qq (a8 xR rfl rfl ph1 hx2) rfl<|qq (ao GC rfl (fun w1 hw=>(g2.of_eq 0 3 rfl rfl:rg _ _ _ [iV x2.Id,.string x2.F.Kind,v2]).rangeAt hw.in0) rfl) rfl ?_
  obtain ⟨x3,hx3,h⟩:=bs h
  refine qp (bP Mx rfl (fun w1 hw=>Bf N (ba hw.in0) x1 x2 h1 h2 hx3)) rfl<|aqt 2 [] rfl ?_
  refine ch h rfl ?_ ?_ <;> intro h
  ·refine att 4 [] rfl ?_
   exact rt hF h
  refine att 7 [] rfl ?_
  exact lb [] [] (ih1 _ h)
 refine att 5 [] rfl ?_
 exact rt hF h
theorem AM (w0:af Ψ Φ []) (p0:ah) (p1:ah) (ph0_0:RSl bE 3 Ψ pG0_0 pv0_0 p0.Items) (ph1_0:RSl bE 3 Ψ pG1_0 pv1_0 p1.Items) {r:Bool} (h:oK N p0 p1=some r) :
  CB w0 prog 17 [.agg [pv0_0,iV p0.Next].toArray,.agg [pv1_0,iV p1.Next].toArray] (.bool r):=by
 refine eN func17 rfl ntmps17 rfl w0 fun hF=>?_
 unfold oK at h
 refine sr<|lbx rfl fun b_1=>lbx rfl fun b_2=>arr 9 [0,32,0,0] rfl<|qd h (A7 N · p0.Items p1.Items ph0_0 ph1_0 ·) rfl rfl rfl fun x1 h=>la rfl<|en ?_
 refine ch h rfl ?_ ?_ <;> intro h
 ·refine att 4 [] rfl ?_
  exact rt hF h
 refine att 10 [1,32,1,0] rfl ?_
 refine ch h rfl ?_ ?_ <;> intro h
 ·refine att 4 [] rfl ?_
  exact rt hF h
 refine att 5 [] rfl ?_
 exact rt hF h
theorem bg  (w0:af Ψ Φ []) (p0:Int)  {r:ByteArray} (h:au N p0=some r) :
  CB w0 prog 89 [iV p0] (.string r):=by
 refine eN func89 rfl ntmps89 rfl w0 fun hF=>?_
 unfold au at h
 refine att 10 [] rfl ?_
 refine ch h rfl ?_ ?_ <;> intro h
 ·refine att 4 [] rfl ?_
  exact rt hF h
 refine att 7 [] rfl ?_
 refine lin (σ:=Hp × Int × ByteArray) (fun s=>[(0,iV s.2.1),(3,.string s.2.2)]) (fun s=>St w0 s.1 [] []) (fun m s=>fE N m s.2.1 s.2.2=some r) (Φ,p0,(⟨#[]⟩:ByteArray)) N h (sx [] []) (fun n1 ih1 s hm=>?_)
 obtain ⟨Φ_1,s1,s2⟩:=s
 have h:fE N (n1+1) s1 s2=some r:=hm
 show WT _ _ [(0,iV s1),(3,.string s2)] (St w0 Φ_1 [] [])
 unfold fE at h
 refine att 6 [] rfl ?_
 refine ch h rfl ?_ ?_ <;> intro h
 ·refine atr 5 [] rfl<|lq (Lc rfl rfl (by decide)) rfl<|la rfl<|lq (wc Jn HX rfl) rfl ?_
  have rc1:RC (RI .u8) 1 Φ_1 ([[]]:List (List Nat)) [.int .u8 (IntKind.u8.wrap (wz (48+(s1.tmod 10))))] ([(IntKind.u8.wrap (wz (48+(s1.tmod 10))))]:List Int):=RC.cons (c:=[.int .u8 (IntKind.u8.wrap (wz (48+(s1.tmod 10))))]) (cells:=[]) ⟨rfl,rfl⟩ rfl (RC.nil _ _ _)
  refine le' (cu (vs:=[(0,.int .u8 (IntKind.u8.wrap (wz (48+(s1.tmod 10)))))]) (C:=#[.int .u8 (IntKind.u8.wrap (wz (48+(s1.tmod 10))))]) RI.lasts Ju P9 rfl rfl rfl rfl (aI Ms (ai (C':=[.int .u8 (IntKind.u8.wrap (wz (48+(s1.tmod 10))))]) rfl rfl rfl rfl rfl (ak))) rfl rc1 rfl (by simpa using Kw.nil)) rfl ?_
  rintro v1 Φ_2 D1 ⟨fr1,h1⟩
  replace h1:OSl (RI .u8) 5 1 Φ_2 [] v1 ([(IntKind.u8.wrap (wz (48+(s1.tmod 10))))]:List Int):=by simpa using h1
  refine lq (JS Ju HX fL rfl (fun w1 hw=>h1.rsl)) rfl<|la rfl ?_
  obtain ⟨z1,hz1,h⟩:=bs h
  refine lq (Lg rfl rfl hz1) rfl<|arr 4 [] rfl<|lq (Oc rfl rfl (by decide)) rfl<|art 3 [] rfl ?_
  exact lb [] [] (ih1 (_,_,_) h)
 refine atr 4 [] rfl ?_
 obtain ⟨z2,hz2,h⟩:=bs h
 refine lq (Lg rfl rfl hz2) rfl<|la rfl<|en ?_
 exact rt hF h
theorem yG (w0:af Ψ Φ [ob pv0].flatten) (p0:(List be)) (p1:Int) (ph0:OSl bQ 224 5 Φ [] pv0 p0) {r:Int × (List be)} (h:pX N p0 p1=some r) :
  Calls prog 145 [pv0,iV p1].toArray w0.w (aQ Φ w0.w [ob pv0].flatten (fun Φ' Fs v=>v=iV r.1∧Fs=[ob pv0]∧OSl bQ 224 5 Φ' [] pv0 r.2)):=by
 refine eL func145 rfl ntmps145 rfl (L:=[ob pv0]) w0 (fun hF=>?_)
 unfold pX at h
 refine att 10 [] rfl ?_
 refine lin (σ:=Hp × (List be) × Int × Int) (fun s=>[(0,pv0),(1,iV s.2.2.1),(5,iV s.2.2.2)]) (fun s=>St w0 s.1 [] [ob pv0]) (fun m s=>fG N m s.2.1 s.2.2.1 s.2.2.2=some r∧(OSl bQ 224 5 s.1 [] pv0 s.2.1)) (Φ,p0,p1,0) N ⟨h,ph0⟩ (sx [0] []) (fun n1 ih1 s hm=>?_)
 obtain ⟨Φ_1,s1,s2,s3⟩:=s
 obtain ⟨h,k1⟩:=hm
 dsimp only at h k1 ⊢
 unfold fG at h
 refine atr 5 [] rfl<|lno k1 rfl<|la rfl<|en ?_
 refine ch h rfl ?_ ?_ <;> intro h
 ·refine atr 8 [] rfl ?_
  obtain ⟨x1,hx1,h⟩:=bs h
  obtain ⟨cs1,F1,h1,r1⟩:=k1.focusF bQ.flat hx1
  obtain ⟨rfl,-⟩:=r1
  refine lih h1 hx1 rfl<|lf xB rfl rfl rfl<|lu (us [0] [] 0 bQ.lasts j5 rfl rfl rfl rfl h1 rfl (fun ap=>dN)) rfl ?_
  rintro Φ_2 D2 ⟨⟨ap1,fr1⟩,h2⟩
  refine arr 12 [] rfl<|qc h (bg N · (wz (s2+1)) ·) rfl rfl rfl fun x2 h=>lih h2 hx1 rfl<|lf xm rfl rfl rfl<|lu (us [0] [] 1 bQ.lasts nA rfl rfl rfl rfl h2 rfl (fun ap=>dN)) rfl ?_
  rintro Φ_3 D3 ⟨⟨ap2,fr2⟩,h3⟩
  refine arr 12 [] rfl<|lih h3 hx1 rfl<|arr 2 [2,0] rfl<|lu (us [0] [] 2 bQ.lasts j5 rfl rfl rfl rfl h3 rfl (fun ap=>dN)) rfl ?_
  rintro Φ_4 D4 ⟨⟨ap3,fr3⟩,h4⟩
  refine arr 12 [] rfl<|lih h4 hx1 rfl<|arr 2 [2,1] rfl<|lu (us [0] [] 3 bQ.lasts j5 rfl rfl rfl rfl h4 rfl (fun ap=>dN)) rfl ?_
  rintro Φ_5 D5 ⟨⟨ap4,fr4⟩,h5⟩
  refine arr 12 [] rfl<|qc h (bg N · (wz ((wz ((wz ((wz (s2+1))+1))+1))+1)) ·) rfl rfl rfl fun x3 h=>lih h5 hx1 rfl<|arr 2 [2,2] rfl<|lu (us [0] [] 4 bQ.lasts nA rfl rfl rfl rfl h5 rfl (fun ap=>dN)) rfl ?_
  rintro Φ_6 D6 ⟨⟨ap5,fr5⟩,h6⟩
  refine art 12 [] rfl ?_
  have h7:=h6.unfocusF bQ.flat (x':=(⟨s2,x2,(⟨wz ((wz (s2+1))+1),wz ((wz ((wz (s2+1))+1))+1),x3⟩:aL)⟩:be)) ⟨rfl,rfl⟩
  exact lb [0] [] (ih1 (_,_,_,_) ⟨h,h7⟩)
 refine att 6 [] rfl ?_
 exact rtg [0] hF (ay.one rfl) rfl (by cases h; exact fun w1 hw=>⟨rfl,rfl,k1⟩)
theorem yb (w0:af Ψ Φ [ob pv0,pD0].flatten) (p0:(List av)) (p1:Int) (ph0:OSl fu 212 3 Φ pD0 pv0 p0) {r:Int × (List av)} (h:pR N p0 p1=some r) :
  Calls prog 90 [pv0,iV p1].toArray w0.w (aQ Φ w0.w [ob pv0,pD0].flatten (fun Φ' Fs v=>∃ (Do_0_0:List Nat),v=iV r.1∧Fs=[ob pv0,Do_0_0]∧OSl fu 212 3 Φ' Do_0_0 pv0 r.2)):=by
 refine eL func90 rfl ntmps90 rfl (L:=[ob pv0,pD0]) w0 (fun hF=>?_)
 unfold pR at h
 refine att 10 [] rfl ?_
 refine lin (σ:=Hp × (List av) × List Nat × Int × Int) (fun s=>[(0,pv0),(1,iV s.2.2.2.1),(5,iV s.2.2.2.2)]) (fun s=>St w0 s.1 [] [ob pv0,s.2.2.1]) (fun m s=>fC N m s.2.1 s.2.2.2.1 s.2.2.2.2=some r∧(OSl fu 212 3 s.1 s.2.2.1 pv0 s.2.1)) (Φ,p0,pD0,p1,0) N ⟨h,ph0⟩ (sx [0,0] []) (fun n1 ih1 s hm=>?_)
 obtain ⟨Φ_1,s1,D1,s2,s3⟩:=s
 obtain ⟨h,k1⟩:=hm
 dsimp only at h k1 ⊢
 unfold fC at h
 refine atr 5 [] rfl<|lno k1 rfl<|la rfl<|en ?_
 refine ch h rfl ?_ ?_ <;> intro h
 ·refine atr 8 [] rfl<|qc h (bg N · s2 ·) rfl rfl rfl fun x1 h=>?_
  obtain ⟨x2,hx2,h⟩:=bs h
  obtain ⟨cs1,F1,D2,h1,r1,kf1,sp1⟩:=k1.focus hx2
  obtain ⟨v1,rfl,rfl,h2⟩:=r1
  refine wlL [ob v1,D2,ob pv0] (sre [1] [ob v1,D2] rfl (by simpa [List.append_assoc] using sp1))<|lih h1 hx2 rfl<|lf HZ rfl rfl rfl<|lu (us [2] [ob v1,D2] 0 fu.lasts nA rfl rfl rfl rfl h1 rfl (fun ap=>ap.q 1 rfl)) rfl ?_
  rintro Φ_2 D3 ⟨⟨ap1,fr1⟩,h3⟩
  replace h2:=h2.fr fr1 (ap1.q 0 rfl) dN
  refine arr 11 [] rfl<|lih h3 hx2 rfl<|lf Dr rfl rfl rfl<|lgx 1 0 h3.rg rfl<|la rfl<|kcb [1] h rfl rfl rfl rfl (fun b ap z q=>yG N b x2.Args (wz (s2+1)) h2 q) ?_
  rintro x3 h v2 Φ_3 F2 ⟨ap2,fr2,rfl,rfl,h4⟩
  replace h3:=h3.fr fr2 (ap2.q 0 rfl) (ap2.q 1 rfl)
  refine arr 7 [] rfl<|lq (Lc rfl rfl (by decide)) rfl<|la rfl<|lih h3 hx2 rfl<|lf lP rfl rfl rfl<|lu (us [1] [ob v1,D2] 2 fu.lasts NA rfl rfl rfl rfl h3 rfl (fun ap=>ap.q 1 rfl)) rfl ?_
  rintro Φ_4 D4 ⟨⟨ap3,fr3⟩,h5⟩
  replace h4:=h4.fr fr3 (ap3.q 0 rfl) dN
  refine art 12 [] rfl ?_
  have r2:fu Φ_4 _ [.string x1,v1,.bool (decide ((x3.1.tmod 3)=0))] (⟨x1,x3.2,decide ((x3.1.tmod 3)=0)⟩:av):=⟨v1,rfl,rfl,h4⟩
  obtain ⟨D5,h6,sp2⟩:=h5.unfocus r2 (fu.knows _ _ _ _ r2)
  refine wtL [D5,ob pv0] (smg [1,1] rfl (by simpa [List.append_assoc,bl] using sp2)) ?_
  exact lb [1,0] [] (ih1 (_,_,_,_,_) ⟨h,h6⟩)
 refine att 6 [] rfl ?_
 exact rtg [0,0] hF (ay.one rfl) rfl (by cases h; exact fun w1 hw=>⟨D1,rfl,rfl,k1⟩)
theorem xe (w0:af Ψ Φ [ob pv0].flatten) (p0:(List bn)) (p1:Int) (ph0:OSl bd 226 11 Φ [] pv0 p0) {r:Int × (List bn)} (h:oe N p0 p1=some r) :
  Calls prog 91 [pv0,iV p1].toArray w0.w (aQ Φ w0.w [ob pv0].flatten (fun Φ' Fs v=>v=iV r.1∧Fs=[ob pv0]∧OSl bd 226 11 Φ' [] pv0 r.2)):=by
 refine eL func91 rfl ntmps91 rfl (L:=[ob pv0]) w0 (fun hF=>?_)
 unfold oe at h
 refine att 10 [] rfl ?_
 refine lin (σ:=Hp × (List bn) × Int × Int) (fun s=>[(0,pv0),(1,iV s.2.2.1),(5,iV s.2.2.2)]) (fun s=>St w0 s.1 [] [ob pv0]) (fun m s=>eF N m s.2.1 s.2.2.1 s.2.2.2=some r∧(OSl bd 226 11 s.1 [] pv0 s.2.1)) (Φ,p0,p1,0) N ⟨h,ph0⟩ (sx [0] []) (fun n1 ih1 s hm=>?_)
 obtain ⟨Φ_1,s1,s2,s3⟩:=s
 obtain ⟨h,k1⟩:=hm
 dsimp only at h k1 ⊢
 unfold eF at h
 refine atr 5 [] rfl<|lno k1 rfl<|la rfl<|en ?_
 refine ch h rfl ?_ ?_ <;> intro h
 ·refine atr 8 [] rfl ?_
  obtain ⟨x1,hx1,h⟩:=bs h
  obtain ⟨cs1,F1,h1,r1⟩:=k1.focusF bd.flat hx1
  obtain ⟨rfl,-⟩:=r1
  refine lih h1 hx1 rfl<|lf Ie rfl rfl rfl<|lu (us [0] [] 0 bd.lasts j5 rfl rfl rfl rfl h1 rfl (fun ap=>dN)) rfl ?_
  rintro Φ_2 D2 ⟨⟨ap1,fr1⟩,h2⟩
  refine arr 12 [] rfl<|lih h2 hx1 rfl<|arr 2 [1,0] rfl<|lu (us [0] [] 1 bd.lasts j5 rfl rfl rfl rfl h2 rfl (fun ap=>dN)) rfl ?_
  rintro Φ_3 D3 ⟨⟨ap2,fr2⟩,h3⟩
  refine arr 12 [] rfl<|qc h (bg N · (wz ((wz (s2+1))+1)) ·) rfl rfl rfl fun x2 h=>lih h3 hx1 rfl<|arr 2 [1,1] rfl<|lu (us [0] [] 2 bd.lasts nA rfl rfl rfl rfl h3 rfl (fun ap=>dN)) rfl ?_
  rintro Φ_4 D4 ⟨⟨ap3,fr3⟩,h4⟩
  refine arr 12 [] rfl<|lih h4 hx1 rfl<|arr 3 [1,2,0] rfl<|lu (us [0] [] 3 bd.lasts j5 rfl rfl rfl rfl h4 rfl (fun ap=>dN)) rfl ?_
  rintro Φ_5 D5 ⟨⟨ap4,fr4⟩,h5⟩
  refine arr 12 [] rfl<|lih h5 hx1 rfl<|arr 3 [1,2,1] rfl<|lu (us [0] [] 4 bd.lasts j5 rfl rfl rfl rfl h5 rfl (fun ap=>dN)) rfl ?_
  rintro Φ_6 D6 ⟨⟨ap5,fr5⟩,h6⟩
  refine arr 12 [] rfl<|qc h (bg N · (wz ((wz ((wz ((wz ((wz (s2+1))+1))+1))+1))+1)) ·) rfl rfl rfl fun x3 h=>lih h6 hx1 rfl<|arr 3 [1,2,2] rfl<|lu (us [0] [] 5 bd.lasts nA rfl rfl rfl rfl h6 rfl (fun ap=>dN)) rfl ?_
  rintro Φ_7 D7 ⟨⟨ap6,fr6⟩,h7⟩
  refine arr 12 [] rfl<|lih h7 hx1 rfl<|arr 2 [6,0] rfl<|lu (us [0] [] 6 bd.lasts j5 rfl rfl rfl rfl h7 rfl (fun ap=>dN)) rfl ?_
  rintro Φ_8 D8 ⟨⟨ap7,fr7⟩,h8⟩
  refine arr 12 [] rfl<|qc h (bg N · (wz ((wz ((wz ((wz ((wz ((wz ((wz (s2+1))+1))+1))+1))+1))+1))+1)) ·) rfl rfl rfl fun x4 h=>lih h8 hx1 rfl<|arr 2 [6,1] rfl<|lu (us [0] [] 7 bd.lasts nA rfl rfl rfl rfl h8 rfl (fun ap=>dN)) rfl ?_
  rintro Φ_9 D9 ⟨⟨ap8,fr8⟩,h9⟩
  refine arr 12 [] rfl<|lih h9 hx1 rfl<|arr 3 [6,2,0] rfl<|lu (us [0] [] 8 bd.lasts j5 rfl rfl rfl rfl h9 rfl (fun ap=>dN)) rfl ?_
  rintro Φ_10 D10 ⟨⟨ap9,fr9⟩,h10⟩
  refine arr 12 [] rfl<|lih h10 hx1 rfl<|arr 3 [6,2,1] rfl<|lu (us [0] [] 9 bd.lasts j5 rfl rfl rfl rfl h10 rfl (fun ap=>dN)) rfl ?_
  rintro Φ_11 D11 ⟨⟨ap10,fr10⟩,h11⟩
  refine arr 12 [] rfl<|qc h (bg N · (wz ((wz ((wz ((wz ((wz ((wz ((wz ((wz ((wz ((wz (s2+1))+1))+1))+1))+1))+1))+1))+1))+1))+1)) ·) rfl rfl rfl fun x5 h=>lih h11 hx1 rfl<|arr 3 [6,2,2] rfl<|lu (us [0] [] 10 bd.lasts nA rfl rfl rfl rfl h11 rfl (fun ap=>dN)) rfl ?_
  rintro Φ_12 D12 ⟨⟨ap11,fr11⟩,h12⟩
  refine art 12 [] rfl ?_
  have h13:=h12.unfocusF bd.flat (x':=(⟨s2,(⟨wz (s2+1),x2,(⟨wz ((wz ((wz (s2+1))+1))+1),wz ((wz ((wz ((wz (s2+1))+1))+1))+1),x3⟩:aL)⟩:be),(⟨wz ((wz ((wz ((wz ((wz ((wz (s2+1))+1))+1))+1))+1))+1),x4,(⟨wz ((wz ((wz ((wz ((wz ((wz ((wz ((wz (s2+1))+1))+1))+1))+1))+1))+1))+1),wz ((wz ((wz ((wz ((wz ((wz ((wz ((wz ((wz (s2+1))+1))+1))+1))+1))+1))+1))+1))+1),x5⟩:aL)⟩:be)⟩:bn)) ⟨rfl,rfl⟩
  exact lb [0] [] (ih1 (_,_,_,_) ⟨h,h13⟩)
 refine att 6 [] rfl ?_
 exact rtg [0] hF (ay.one rfl) rfl (by cases h; exact fun w1 hw=>⟨rfl,rfl,k1⟩)
theorem xq (w0:af Ψ Φ [ob pv0].flatten) (p0:(List bk)) (p1:Int) (ph0:OSl bu 281 11 Φ [] pv0 p0) {r:Int × (List bk)} (h:ou N p0 p1=some r) :
  Calls prog 146 [pv0,iV p1].toArray w0.w (aQ Φ w0.w [ob pv0].flatten (fun Φ' Fs v=>v=iV r.1∧Fs=[ob pv0]∧OSl bu 281 11 Φ' [] pv0 r.2)):=by
 refine eL func146 rfl ntmps146 rfl (L:=[ob pv0]) w0 (fun hF=>?_)
 unfold ou at h
 refine att 10 [] rfl ?_
 refine lin (σ:=Hp × (List bk) × Int × Int) (fun s=>[(0,pv0),(1,iV s.2.2.1),(5,iV s.2.2.2)]) (fun s=>St w0 s.1 [] [ob pv0]) (fun m s=>ez N m s.2.1 s.2.2.1 s.2.2.2=some r∧(OSl bu 281 11 s.1 [] pv0 s.2.1)) (Φ,p0,p1,0) N ⟨h,ph0⟩ (sx [0] []) (fun n1 ih1 s hm=>?_)
 obtain ⟨Φ_1,s1,s2,s3⟩:=s
 obtain ⟨h,k1⟩:=hm
 dsimp only at h k1 ⊢
 unfold ez at h
 refine atr 5 [] rfl<|lno k1 rfl<|la rfl<|en ?_
 refine ch h rfl ?_ ?_ <;> intro h
 ·refine atr 8 [] rfl<|qc h (bg N · s2 ·) rfl rfl rfl fun x1 h=>?_
  obtain ⟨x2,hx2,h⟩:=bs h
  obtain ⟨cs1,F1,h1,r1⟩:=k1.focusF bu.flat hx2
  obtain ⟨rfl,-⟩:=r1
  refine lih h1 hx2 rfl<|lf HY rfl rfl rfl<|lu (us [0] [] 0 bu.lasts nA rfl rfl rfl rfl h1 rfl (fun ap=>dN)) rfl ?_
  rintro Φ_2 D2 ⟨⟨ap1,fr1⟩,h2⟩
  refine arr 12 [] rfl<|lih h2 hx2 rfl<|arr 2 [1,0] rfl<|lu (us [0] [] 1 bu.lasts j5 rfl rfl rfl rfl h2 rfl (fun ap=>dN)) rfl ?_
  rintro Φ_3 D3 ⟨⟨ap2,fr2⟩,h3⟩
  refine arr 12 [] rfl<|qc h (bg N · (wz ((wz (s2+1))+1)) ·) rfl rfl rfl fun x3 h=>lih h3 hx2 rfl<|arr 2 [1,1] rfl<|lu (us [0] [] 2 bu.lasts nA rfl rfl rfl rfl h3 rfl (fun ap=>dN)) rfl ?_
  rintro Φ_4 D4 ⟨⟨ap3,fr3⟩,h4⟩
  refine arr 12 [] rfl<|lih h4 hx2 rfl<|arr 3 [1,2,0] rfl<|lu (us [0] [] 3 bu.lasts j5 rfl rfl rfl rfl h4 rfl (fun ap=>dN)) rfl ?_
  rintro Φ_5 D5 ⟨⟨ap4,fr4⟩,h5⟩
  refine arr 12 [] rfl<|lih h5 hx2 rfl<|arr 3 [1,2,1] rfl<|lu (us [0] [] 4 bu.lasts j5 rfl rfl rfl rfl h5 rfl (fun ap=>dN)) rfl ?_
  rintro Φ_6 D6 ⟨⟨ap5,fr5⟩,h6⟩
  refine arr 12 [] rfl<|qc h (bg N · (wz ((wz ((wz ((wz ((wz (s2+1))+1))+1))+1))+1)) ·) rfl rfl rfl fun x4 h=>lih h6 hx2 rfl<|arr 3 [1,2,2] rfl<|lu (us [0] [] 5 bu.lasts nA rfl rfl rfl rfl h6 rfl (fun ap=>dN)) rfl ?_
  rintro Φ_7 D7 ⟨⟨ap6,fr6⟩,h7⟩
  refine arr 12 [] rfl<|lih h7 hx2 rfl<|arr 2 [6,0] rfl<|lu (us [0] [] 6 bu.lasts j5 rfl rfl rfl rfl h7 rfl (fun ap=>dN)) rfl ?_
  rintro Φ_8 D8 ⟨⟨ap7,fr7⟩,h8⟩
  refine arr 12 [] rfl<|qc h (bg N · (wz ((wz ((wz ((wz ((wz ((wz ((wz (s2+1))+1))+1))+1))+1))+1))+1)) ·) rfl rfl rfl fun x5 h=>lih h8 hx2 rfl<|arr 2 [6,1] rfl<|lu (us [0] [] 7 bu.lasts nA rfl rfl rfl rfl h8 rfl (fun ap=>dN)) rfl ?_
  rintro Φ_9 D9 ⟨⟨ap8,fr8⟩,h9⟩
  refine arr 12 [] rfl<|lih h9 hx2 rfl<|arr 3 [6,2,0] rfl<|lu (us [0] [] 8 bu.lasts j5 rfl rfl rfl rfl h9 rfl (fun ap=>dN)) rfl ?_
  rintro Φ_10 D10 ⟨⟨ap9,fr9⟩,h10⟩
  refine arr 12 [] rfl<|lih h10 hx2 rfl<|arr 3 [6,2,1] rfl<|lu (us [0] [] 9 bu.lasts j5 rfl rfl rfl rfl h10 rfl (fun ap=>dN)) rfl ?_
  rintro Φ_11 D11 ⟨⟨ap10,fr10⟩,h11⟩
  refine arr 12 [] rfl<|qc h (bg N · (wz ((wz ((wz ((wz ((wz ((wz ((wz ((wz ((wz ((wz (s2+1))+1))+1))+1))+1))+1))+1))+1))+1))+1)) ·) rfl rfl rfl fun x6 h=>lih h11 hx2 rfl<|arr 3 [6,2,2] rfl<|lu (us [0] [] 10 bu.lasts nA rfl rfl rfl rfl h11 rfl (fun ap=>dN)) rfl ?_
  rintro Φ_12 D12 ⟨⟨ap11,fr11⟩,h12⟩
  refine art 12 [] rfl ?_
  have h13:=h12.unfocusF bu.flat (x':=(⟨x1,(⟨wz (s2+1),x3,(⟨wz ((wz ((wz (s2+1))+1))+1),wz ((wz ((wz ((wz (s2+1))+1))+1))+1),x4⟩:aL)⟩:be),(⟨wz ((wz ((wz ((wz ((wz ((wz (s2+1))+1))+1))+1))+1))+1),x5,(⟨wz ((wz ((wz ((wz ((wz ((wz ((wz ((wz (s2+1))+1))+1))+1))+1))+1))+1))+1),wz ((wz ((wz ((wz ((wz ((wz ((wz ((wz ((wz (s2+1))+1))+1))+1))+1))+1))+1))+1))+1),x6⟩:aL)⟩:be)⟩:bk)) ⟨rfl,rfl⟩
  exact lb [0] [] (ih1 (_,_,_,_) ⟨h,h13⟩)
 refine att 6 [] rfl ?_
 exact rtg [0] hF (ay.one rfl) rfl (by cases h; exact fun w1 hw=>⟨rfl,rfl,k1⟩)
theorem yB (w0:af Ψ Φ [ob pv0,pD0].flatten) (p0:(List bM)) (p1:Int) (ph0:OSl gA 229 5 Φ pD0 pv0 p0) {r:Int × (List bM)} (h:q9 N p0 p1=some r) :
  Calls prog 92 [pv0,iV p1].toArray w0.w (aQ Φ w0.w [ob pv0,pD0].flatten (fun Φ' Fs v=>∃ (Do_0_0:List Nat),v=iV r.1∧Fs=[ob pv0,Do_0_0]∧OSl gA 229 5 Φ' Do_0_0 pv0 r.2)):=by
 refine eL func92 rfl ntmps92 rfl (L:=[ob pv0,pD0]) w0 (fun hF=>?_)
 unfold q9 at h
 refine att 10 [] rfl ?_
 refine lin (σ:=Hp × (List bM) × List Nat × Int × Int) (fun s=>[(0,pv0),(1,iV s.2.2.2.1),(5,iV s.2.2.2.2)]) (fun s=>St w0 s.1 [] [ob pv0,s.2.2.1]) (fun m s=>fy N m s.2.1 s.2.2.2.1 s.2.2.2.2=some r∧(OSl gA 229 5 s.1 s.2.2.1 pv0 s.2.1)) (Φ,p0,pD0,p1,0) N ⟨h,ph0⟩ (sx [0,0] []) (fun n1 ih1 s hm=>?_)
 obtain ⟨Φ_1,s1,D1,s2,s3⟩:=s
 obtain ⟨h,k1⟩:=hm
 dsimp only at h k1 ⊢
 unfold fy at h
 refine atr 5 [] rfl<|lno k1 rfl<|la rfl<|en ?_
 refine ch h rfl ?_ ?_ <;> intro h
 ·refine atr 8 [] rfl ?_
  obtain ⟨x1,hx1,h⟩:=bs h
  obtain ⟨cs1,F1,D2,h1,r1,kf1,sp1⟩:=k1.focus hx1
  obtain ⟨v1,rfl,rfl,h2⟩:=r1
  refine wlL [ob v1,D2,ob pv0] (sre [1] [ob v1,D2] rfl (by simpa [List.append_assoc] using sp1))<|lih h1 hx1 rfl<|lf CX rfl rfl rfl<|lu (us [2] [ob v1,D2] 0 gA.lasts j5 rfl rfl rfl rfl h1 rfl (fun ap=>ap.q 1 rfl)) rfl ?_
  rintro Φ_2 D3 ⟨⟨ap1,fr1⟩,h3⟩
  replace h2:=h2.fr fr1 (ap1.q 0 rfl) dN
  refine arr 12 [] rfl<|qc h (bg N · (wz (s2+1)) ·) rfl rfl rfl fun x2 h=>lih h3 hx1 rfl<|lf I7 rfl rfl rfl<|lu (us [0] [ob v1,D2] 1 gA.lasts nA rfl rfl rfl rfl h3 rfl (fun ap=>ap.q 1 rfl)) rfl ?_
  rintro Φ_3 D4 ⟨⟨ap2,fr2⟩,h4⟩
  replace h2:=h2.fr fr2 (ap2.q 0 rfl) dN
  refine arr 11 [] rfl<|lih h4 hx1 rfl<|lf tA rfl rfl rfl<|lgx 2 0 h4.rg rfl<|la rfl<|kcb [1] h rfl rfl rfl rfl (fun b ap z q=>xq N b x1.Args (wz ((wz (s2+1))+1)) h2 q) ?_
  rintro x3 h v2 Φ_4 F2 ⟨ap3,fr3,rfl,rfl,h5⟩
  replace h4:=h4.fr fr3 (ap3.q 0 rfl) (ap3.q 1 rfl)
  refine arr 7 [] rfl<|lih h4 hx1 rfl<|lf Db rfl rfl rfl<|lu (us [1] [ob v1,D2] 3 gA.lasts j5 rfl rfl rfl rfl h4 rfl (fun ap=>ap.q 1 rfl)) rfl ?_
  rintro Φ_5 D5 ⟨⟨ap4,fr4⟩,h6⟩
  replace h5:=h5.fr fr4 (ap4.q 0 rfl) dN
  refine arr 12 [] rfl<|qc h (bg N · (wz (x3.1+1)) ·) rfl rfl rfl fun x4 h=>lih h6 hx1 rfl<|lf I3 rfl rfl rfl<|lu (us [0] [ob v1,D2] 4 gA.lasts nA rfl rfl rfl rfl h6 rfl (fun ap=>ap.q 1 rfl)) rfl ?_
  rintro Φ_6 D6 ⟨⟨ap5,fr5⟩,h7⟩
  replace h5:=h5.fr fr5 (ap5.q 0 rfl) dN
  refine art 12 [] rfl ?_
  have r2:gA Φ_6 _ [iV s2,.string x2,v1,iV x3.1,.string x4] (⟨s2,x2,x3.2,x3.1,x4⟩:bM):=⟨v1,rfl,rfl,h5⟩
  obtain ⟨D7,h8,sp2⟩:=h7.unfocus r2 (gA.knows _ _ _ _ r2)
  refine wtL [D7,ob pv0] (smg [1,1] rfl (by simpa [List.append_assoc,bl] using sp2)) ?_
  exact lb [1,0] [] (ih1 (_,_,_,_,_) ⟨h,h8⟩)
 refine att 6 [] rfl ?_
 exact rtg [0,0] hF (ay.one rfl) rfl (by cases h; exact fun w1 hw=>⟨D1,rfl,rfl,k1⟩)
theorem xp (w0:af Ψ Φ [ob pv0,pD0].flatten) (p0:(List ag)) (p1:Int) (ph0:OSl bN 148 5 Φ pD0 pv0 p0) {r:Int × (List ag)} (h:ov N p0 p1=some r) :
  Calls prog 47 [pv0,iV p1].toArray w0.w (aQ Φ w0.w [ob pv0,pD0].flatten (fun Φ' Fs v=>∃ (Do_0_0:List Nat),v=iV r.1∧Fs=[ob pv0,Do_0_0]∧OSl bN 148 5 Φ' Do_0_0 pv0 r.2)):=by
 refine eL func47 rfl ntmps47 rfl (L:=[ob pv0,pD0]) w0 (fun hF=>?_)
 unfold ov at h
 refine att 10 [] rfl ?_
 refine lin (σ:=Hp × (List ag) × List Nat × Int × Int) (fun s=>[(0,pv0),(1,iV s.2.2.2.1),(5,iV s.2.2.2.2)]) (fun s=>St w0 s.1 [] [ob pv0,s.2.2.1]) (fun m s=>eB N m s.2.1 s.2.2.2.1 s.2.2.2.2=some r∧(OSl bN 148 5 s.1 s.2.2.1 pv0 s.2.1)) (Φ,p0,pD0,p1,0) N ⟨h,ph0⟩ (sx [0,0] []) (fun n1 ih1 s hm=>?_)
 obtain ⟨Φ_1,s1,D1,s2,s3⟩:=s
 obtain ⟨h,k1⟩:=hm
 dsimp only at h k1 ⊢
 unfold eB at h
 refine atr 5 [] rfl<|lno k1 rfl<|la rfl<|en ?_
 refine ch h rfl ?_ ?_ <;> intro h
 ·refine atr 8 [] rfl<|qc h (bg N · s2 ·) rfl rfl rfl fun x1 h=>?_
  obtain ⟨x2,hx2,h⟩:=bs h
  obtain ⟨cs1,F1,D2,h1,r1,kf1,sp1⟩:=k1.focus hx2
  obtain ⟨v1,D3,v2,v3,D4,rfl,rfl,h2,h3,h4⟩:=r1
  refine wlL [ob v1,D3,ob v2,ob v3,D4,D2,ob pv0] (sre [1] [ob v1,D3,ob v2,ob v3,D4,D2] rfl (by simpa [List.append_assoc] using sp1))<|lih h1 hx2 rfl<|lf xu rfl rfl rfl<|lu (us [6] [ob v1,D3,ob v2,ob v3,D4,D2] 0 bN.lasts nA rfl rfl rfl rfl h1 rfl (fun ap=>ap.q 5 rfl)) rfl ?_
  rintro Φ_2 D5 ⟨⟨ap1,fr1⟩,h5⟩
  replace h2:=h2.fr fr1 (ap1.q 0 rfl) (ap1.q 1 rfl)
  replace h3:=h3.fr fr1 (ap1.q 2 rfl) dN
  replace h4:=h4.fr fr1 (ap1.q 3 rfl) (ap1.q 4 rfl)
  refine arr 12 [] rfl<|lih h5 hx2 rfl<|lf Is rfl rfl rfl<|lu (us [0] [ob v1,D3,ob v2,ob v3,D4,D2] 1 bN.lasts j5 rfl rfl rfl rfl h5 rfl (fun ap=>ap.q 5 rfl)) rfl ?_
  rintro Φ_3 D6 ⟨⟨ap2,fr2⟩,h6⟩
  replace h2:=h2.fr fr2 (ap2.q 0 rfl) (ap2.q 1 rfl)
  replace h3:=h3.fr fr2 (ap2.q 2 rfl) dN
  replace h4:=h4.fr fr2 (ap2.q 3 rfl) (ap2.q 4 rfl)
  refine arr 11 [] rfl<|lih h6 hx2 rfl<|lf uU rfl rfl rfl<|lgx 2 0 h6.rg rfl<|la rfl<|kcb [1,1] h rfl rfl rfl rfl (fun b ap z q=>yb N b x2.Pats (wz ((wz (s2+1))+1)) h2 q) ?_
  rintro x3 h v4 Φ_4 F2 ⟨ap3,fr3,D7,rfl,rfl,h7⟩
  replace h6:=h6.fr fr3 (ap3.q 0 rfl) (ap3.q 4 rfl)
  replace h3:=h3.fr fr3 (ap3.q 1 rfl) dN
  replace h4:=h4.fr fr3 (ap3.q 2 rfl) (ap3.q 3 rfl)
  refine arr 6 [] rfl<|lih h6 hx2 rfl<|lf CT rfl rfl rfl<|lgx 3 0 h6.rg rfl<|la rfl<|kcb [3] h rfl rfl rfl rfl (fun b ap z q=>xe N b x2.Conds x3.1 h3 q) ?_
  rintro x4 h v5 Φ_5 F3 ⟨ap4,fr4,rfl,rfl,h8⟩
  replace h6:=h6.fr fr4 (ap4.q 2 rfl) (ap4.q 5 rfl)
  replace h7:=h7.fr fr4 (ap4.q 0 rfl) (ap4.q 1 rfl)
  replace h4:=h4.fr fr4 (ap4.q 3 rfl) (ap4.q 4 rfl)
  refine arr 5 [] rfl<|lih h6 hx2 rfl<|lf CY rfl rfl rfl<|lgx 4 0 h6.rg rfl<|la rfl<|kcb [4,4] h rfl rfl rfl rfl (fun b ap z q=>yB N b x2.Acts x4.1 h4 q) ?_
  rintro x5 h v6 Φ_6 F4 ⟨ap5,fr5,D8,rfl,rfl,h9⟩
  replace h6:=h6.fr fr5 (ap5.q 3 rfl) (ap5.q 4 rfl)
  replace h7:=h7.fr fr5 (ap5.q 1 rfl) (ap5.q 2 rfl)
  replace h8:=h8.fr fr5 (ap5.q 0 rfl) dN
  refine art 8 [] rfl ?_
  have r2:bN Φ_6 _ [.string x1,iV (wz (s2+1)),v1,v2,v3] (⟨x1,wz (s2+1),x3.2,x4.2,x5.2⟩:ag):=⟨v1,D7,v2,v3,D8,rfl,rfl,h7,h8,h9⟩
  obtain ⟨D9,h10,sp2⟩:=h6.unfocus r2 (bN.knows _ _ _ _ r2)
  refine wtL [D9,ob pv0] (smg [3,3,2,0,0,1] rfl (by simpa [List.append_assoc,bl] using sp2)) ?_
  exact lb [1,0] [] (ih1 (_,_,_,_,_) ⟨h,h10⟩)
 refine att 6 [] rfl ?_
 exact rtg [0,0] hF (ay.one rfl) rfl (by cases h; exact fun w1 hw=>⟨D1,rfl,rfl,k1⟩)
theorem AN (w0:af Ψ Φ [ob pv0_0,pD0_0].flatten) (p0:bo) (p1:Int) (ph0_0:OSl bN 148 5 Φ pD0_0 pv0_0 p0.Rules) {r:Int × (List ag)} (h:oO N p0 p1=some r) :
  Calls prog 18 [.agg [.string p0.Name,pv0_0].toArray,iV p1].toArray w0.w (aQ Φ w0.w [ob pv0_0,pD0_0].flatten (fun Φ' Fs v=>∃ (Do_0_0:List Nat),v=iV r.1∧Fs=[ob pv0_0,Do_0_0]∧OSl bN 148 5 Φ' Do_0_0 pv0_0 r.2)):=by
 refine eL func18 rfl ntmps18 rfl (L:=[ob pv0_0,pD0_0]) w0 (fun hF=>?_)
 unfold oO at h
 refine sr<|lbx rfl fun b_1=>arr 7 [1,0] rfl<|kcb [0,0] h rfl rfl rfl rfl (fun b ap z q=>xp N b p0.Rules p1 ph0_0 q) ?_
 rintro x1 h v1 Φ_1 F1 ⟨ap1,fr1,D1,rfl,rfl,h1⟩
 refine art 7 [] rfl ?_
 exact rtg [0,0] hF (ay.one rfl) rfl (by cases h; exact fun w1 hw=>⟨D1,rfl,rfl,h1⟩)
theorem tZ (w0:af Ψ Φ [ob pv0].flatten) (p0:(List aL)) (p1:Int) (ph0:OSl az 193 3 Φ [] pv0 p0) {r:Int × (List aL)} (h:mQ N p0 p1=some r) :
  Calls prog 93 [pv0,iV p1].toArray w0.w (aQ Φ w0.w [ob pv0].flatten (fun Φ' Fs v=>v=iV r.1∧Fs=[ob pv0]∧OSl az 193 3 Φ' [] pv0 r.2)):=by
 refine eL func93 rfl ntmps93 rfl (L:=[ob pv0]) w0 (fun hF=>?_)
 unfold mQ at h
 refine att 10 [] rfl ?_
 refine lin (σ:=Hp × (List aL) × Int × Int) (fun s=>[(0,pv0),(1,iV s.2.2.1),(5,iV s.2.2.2)]) (fun s=>St w0 s.1 [] [ob pv0]) (fun m s=>fx N m s.2.1 s.2.2.1 s.2.2.2=some r∧(OSl az 193 3 s.1 [] pv0 s.2.1)) (Φ,p0,p1,0) N ⟨h,ph0⟩ (sx [0] []) (fun n1 ih1 s hm=>?_)
 obtain ⟨Φ_1,s1,s2,s3⟩:=s
 obtain ⟨h,k1⟩:=hm
 dsimp only at h k1 ⊢
 unfold fx at h
 refine atr 5 [] rfl<|lno k1 rfl<|la rfl<|en ?_
 refine ch h rfl ?_ ?_ <;> intro h
 ·refine atr 8 [] rfl ?_
  obtain ⟨x1,hx1,h⟩:=bs h
  obtain ⟨cs1,F1,h1,r1⟩:=k1.focusF az.flat hx1
  obtain ⟨rfl,-⟩:=r1
  refine lih h1 hx1 rfl<|lf Ia rfl rfl rfl<|lu (us [0] [] 0 az.lasts j5 rfl rfl rfl rfl h1 rfl (fun ap=>dN)) rfl ?_
  rintro Φ_2 D2 ⟨⟨ap1,fr1⟩,h2⟩
  refine arr 12 [] rfl<|lih h2 hx1 rfl<|lf Iq rfl rfl rfl<|lu (us [0] [] 1 az.lasts j5 rfl rfl rfl rfl h2 rfl (fun ap=>dN)) rfl ?_
  rintro Φ_3 D3 ⟨⟨ap2,fr2⟩,h3⟩
  refine arr 12 [] rfl<|qc h (bg N · (wz ((wz (s2+1))+1)) ·) rfl rfl rfl fun x2 h=>lih h3 hx1 rfl<|lf I6 rfl rfl rfl<|lu (us [0] [] 2 az.lasts nA rfl rfl rfl rfl h3 rfl (fun ap=>dN)) rfl ?_
  rintro Φ_4 D4 ⟨⟨ap3,fr3⟩,h4⟩
  refine art 12 [] rfl ?_
  have h5:=h4.unfocusF az.flat (x':=(⟨s2,wz (s2+1),x2⟩:aL)) ⟨rfl,rfl⟩
  exact lb [0] [] (ih1 (_,_,_,_) ⟨h,h5⟩)
 refine att 6 [] rfl ?_
 exact rtg [0] hF (ay.one rfl) rfl (by cases h; exact fun w1 hw=>⟨rfl,rfl,k1⟩)
theorem gO (w0:af Ψ Φ [ob pv0].flatten) (p0:(List Int)) (p1:Int) (ph0:OSl (RI .i64) 3 1 Φ [] pv0 p0) {r:Int × (List Int)} (h:fP N p0 p1=some r) :
  Calls prog 94 [pv0,iV p1].toArray w0.w (aQ Φ w0.w [ob pv0].flatten (fun Φ' Fs v=>v=iV r.1∧Fs=[ob pv0]∧OSl (RI .i64) 3 1 Φ' [] pv0 r.2)):=by
 refine eL func94 rfl ntmps94 rfl (L:=[ob pv0]) w0 (fun hF=>?_)
 unfold fP at h
 refine att 10 [] rfl ?_
 refine lin (σ:=Hp × (List Int) × Int × Int) (fun s=>[(0,pv0),(1,iV s.2.2.1),(5,iV s.2.2.2)]) (fun s=>St w0 s.1 [] [ob pv0]) (fun m s=>fA N m s.2.1 s.2.2.1 s.2.2.2=some r∧(OSl (RI .i64) 3 1 s.1 [] pv0 s.2.1)) (Φ,p0,p1,0) N ⟨h,ph0⟩ (sx [0] []) (fun n1 ih1 s hm=>?_)
 obtain ⟨Φ_1,s1,s2,s3⟩:=s
 obtain ⟨h,k1⟩:=hm
 dsimp only at h k1 ⊢
 unfold fA at h
 refine atr 5 [] rfl<|lno k1 rfl<|la rfl<|en ?_
 refine ch h rfl ?_ ?_ <;> intro h
 ·refine atr 8 [] rfl ?_
  obtain ⟨x1,hx1,h⟩:=bs h
  obtain ⟨cs1,F1,-,g1,hb1,hs1,r1⟩:=k1.elS (a7 hx1).2.2
  obtain ⟨rfl,-⟩:=r1
  refine lio k1 hx1 rfl<|lu (tS (js:=[0]) (Rr:=[]) (vs:=[iV s2]) (x':=s2) RI.lasts RI.flat j5 rfl rfl rfl rfl ⟨rfl,trivial⟩ rfl k1 (hP hx1) ⟨rfl,rfl⟩) rfl ?_
  rintro Φ_2 D1 ⟨⟨ap1,fr1⟩,h1⟩
  refine art 12 [] rfl ?_
  exact lb [0] [] (ih1 (_,_,_,_) ⟨h,h1⟩)
 refine att 6 [] rfl ?_
 exact rtg [0] hF (ay.one rfl) rfl (by cases h; exact fun w1 hw=>⟨rfl,rfl,k1⟩)
theorem wd (w0:af Ψ Φ [ob pv0,pD0].flatten) (p0:(List a9)) (p1:Int) (ph0:OSl aU 142 4 Φ pD0 pv0 p0) {r:Int × (List a9)} (h:mY N p0 p1=some r) :
  Calls prog 48 [pv0,iV p1].toArray w0.w (aQ Φ w0.w [ob pv0,pD0].flatten (fun Φ' Fs v=>∃ (Do_0_0:List Nat),v=iV r.1∧Fs=[ob pv0,Do_0_0]∧OSl aU 142 4 Φ' Do_0_0 pv0 r.2)):=by
 refine eL func48 rfl ntmps48 rfl (L:=[ob pv0,pD0]) w0 (fun hF=>?_)
 unfold mY at h
 refine att 10 [] rfl ?_
 refine lin (σ:=Hp × (List a9) × List Nat × Int × Int) (fun s=>[(0,pv0),(1,iV s.2.2.2.1),(5,iV s.2.2.2.2)]) (fun s=>St w0 s.1 [] [ob pv0,s.2.2.1]) (fun m s=>dL N m s.2.1 s.2.2.2.1 s.2.2.2.2=some r∧(OSl aU 142 4 s.1 s.2.2.1 pv0 s.2.1)) (Φ,p0,pD0,p1,0) N ⟨h,ph0⟩ (sx [0,0] []) (fun n1 ih1 s hm=>?_)
 obtain ⟨Φ_1,s1,D1,s2,s3⟩:=s
 obtain ⟨h,k1⟩:=hm
 dsimp only at h k1 ⊢
 unfold dL at h
 refine atr 5 [] rfl<|lno k1 rfl<|la rfl<|en ?_
 refine ch h rfl ?_ ?_ <;> intro h
 ·refine atr 8 [] rfl<|qc h (bg N · s2 ·) rfl rfl rfl fun x1 h=>?_
  obtain ⟨x2,hx2,h⟩:=bs h
  obtain ⟨cs1,F1,D2,h1,r1,kf1,sp1⟩:=k1.focus hx2
  obtain ⟨v1,v2,rfl,rfl,h2,h3⟩:=r1
  refine wlL [ob v1,ob v2,D2,ob pv0] (sre [1] [ob v1,ob v2,D2] rfl (by simpa [List.append_assoc] using sp1))<|lih h1 hx2 rfl<|lf HS rfl rfl rfl<|lu (us [3] [ob v1,ob v2,D2] 0 aU.lasts nA rfl rfl rfl rfl h1 rfl (fun ap=>ap.q 2 rfl)) rfl ?_
  rintro Φ_2 D3 ⟨⟨ap1,fr1⟩,h4⟩
  replace h2:=h2.fr fr1 (ap1.q 0 rfl) dN
  replace h3:=h3.fr fr1 (ap1.q 1 rfl) dN
  refine arr 12 [] rfl<|lih h4 hx2 rfl<|lf Ii rfl rfl rfl<|lu (us [0] [ob v1,ob v2,D2] 1 aU.lasts j5 rfl rfl rfl rfl h4 rfl (fun ap=>ap.q 2 rfl)) rfl ?_
  rintro Φ_3 D4 ⟨⟨ap2,fr2⟩,h5⟩
  replace h2:=h2.fr fr2 (ap2.q 0 rfl) dN
  replace h3:=h3.fr fr2 (ap2.q 1 rfl) dN
  refine arr 11 [] rfl<|lih h5 hx2 rfl<|lf xl rfl rfl rfl<|lgx 2 0 h5.rg rfl<|la rfl<|kcb [1] h rfl rfl rfl rfl (fun b ap z q=>tZ N b x2.Consts (wz ((wz (s2+1))+1)) h2 q) ?_
  rintro x3 h v3 Φ_4 F2 ⟨ap3,fr3,rfl,rfl,h6⟩
  replace h5:=h5.fr fr3 (ap3.q 0 rfl) (ap3.q 2 rfl)
  replace h3:=h3.fr fr3 (ap3.q 1 rfl) dN
  refine arr 5 [] rfl<|lih h5 hx2 rfl<|lf uY rfl rfl rfl<|lgx 3 0 h5.rg rfl<|la rfl<|kcb [2] h rfl rfl rfl rfl (fun b ap z q=>gO N b x2.At x3.1 h3 q) ?_
  rintro x4 h v4 Φ_5 F3 ⟨ap4,fr4,rfl,rfl,h7⟩
  replace h5:=h5.fr fr4 (ap4.q 1 rfl) (ap4.q 2 rfl)
  replace h6:=h6.fr fr4 (ap4.q 0 rfl) dN
  refine art 8 [] rfl ?_
  have r2:aU Φ_5 _ [.string x1,iV (wz (s2+1)),v1,v2] (⟨x1,wz (s2+1),x3.2,x4.2⟩:a9):=⟨v1,v2,rfl,rfl,h6,h7⟩
  obtain ⟨D5,h8,sp2⟩:=h5.unfocus r2 (aU.knows _ _ _ _ r2)
  refine wtL [D5,ob pv0] (smg [1,0,1] rfl (by simpa [List.append_assoc,bl] using sp2)) ?_
  exact lb [1,0] [] (ih1 (_,_,_,_,_) ⟨h,h8⟩)
 refine att 6 [] rfl ?_
 exact rtg [0,0] hF (ay.one rfl) rfl (by cases h; exact fun w1 hw=>⟨D1,rfl,rfl,k1⟩)
theorem w7 (w0:af Ψ Φ [ob pv0,pD0].flatten) (p0:(List ae)) (p1:Int) (ph0:OSl aJ 149 2 Φ pD0 pv0 p0) {r:Int × (List ae)} (h:mS N p0 p1=some r) :
  Calls prog 49 [pv0,iV p1].toArray w0.w (aQ Φ w0.w [ob pv0,pD0].flatten (fun Φ' Fs v=>∃ (Do_0_0:List Nat),v=iV r.1∧Fs=[ob pv0,Do_0_0]∧OSl aJ 149 2 Φ' Do_0_0 pv0 r.2)):=by
 refine eL func49 rfl ntmps49 rfl (L:=[ob pv0,pD0]) w0 (fun hF=>?_)
 unfold mS at h
 refine att 10 [] rfl ?_
 refine lin (σ:=Hp × (List ae) × List Nat × Int × Int) (fun s=>[(0,pv0),(1,iV s.2.2.2.1),(5,iV s.2.2.2.2)]) (fun s=>St w0 s.1 [] [ob pv0,s.2.2.1]) (fun m s=>dQ N m s.2.1 s.2.2.2.1 s.2.2.2.2=some r∧(OSl aJ 149 2 s.1 s.2.2.1 pv0 s.2.1)) (Φ,p0,pD0,p1,0) N ⟨h,ph0⟩ (sx [0,0] []) (fun n1 ih1 s hm=>?_)
 obtain ⟨Φ_1,s1,D1,s2,s3⟩:=s
 obtain ⟨h,k1⟩:=hm
 dsimp only at h k1 ⊢
 unfold dQ at h
 refine atr 5 [] rfl<|lno k1 rfl<|la rfl<|en ?_
 refine ch h rfl ?_ ?_ <;> intro h
 ·refine atr 7 [] rfl ?_
  obtain ⟨x1,hx1,h⟩:=bs h
  obtain ⟨cs1,F1,D2,h1,r1,kf1,sp1⟩:=k1.focus hx1
  obtain ⟨v1,v2,rfl,rfl,h2,h3⟩:=r1
  refine wlL [ob v1,ob v2,D2,ob pv0] (sre [1] [ob v1,ob v2,D2] rfl (by simpa [List.append_assoc] using sp1))<|lih h1 hx1 rfl<|lf nQ rfl rfl rfl<|lgx 0 0 h1.rg rfl<|la rfl<|kcb [0] h rfl rfl rfl rfl (fun b ap z q=>gO N b x1.Pos s2 h2 q) ?_
  rintro x2 h v3 Φ_2 F2 ⟨ap1,fr1,rfl,rfl,h4⟩
  replace h1:=h1.fr fr1 (ap1.q 2 rfl) (ap1.q 1 rfl)
  replace h3:=h3.fr fr1 (ap1.q 0 rfl) dN
  refine arr 5 [] rfl<|lih h1 hx1 rfl<|lf nL rfl rfl rfl<|lgx 1 0 h1.rg rfl<|la rfl<|kcb [1] h rfl rfl rfl rfl (fun b ap z q=>gO N b x1.Neg x2.1 h3 q) ?_
  rintro x3 h v4 Φ_3 F3 ⟨ap2,fr2,rfl,rfl,h5⟩
  replace h1:=h1.fr fr2 (ap2.q 2 rfl) (ap2.q 1 rfl)
  replace h4:=h4.fr fr2 (ap2.q 0 rfl) dN
  refine art 8 [] rfl ?_
  have r2:aJ Φ_3 _ [v1,v2] (⟨x2.2,x3.2⟩:ae):=⟨v1,v2,rfl,rfl,h4,h5⟩
  obtain ⟨D3,h6,sp2⟩:=h1.unfocus r2 (aJ.knows _ _ _ _ r2)
  refine wtL [D3,ob pv0] (smg [1,0,0] rfl (by simpa [List.append_assoc,bl] using sp2)) ?_
  exact lb [1,0] [] (ih1 (_,_,_,_,_) ⟨h,h6⟩)
 refine att 6 [] rfl ?_
 exact rtg [0,0] hF (ay.one rfl) rfl (by cases h; exact fun w1 hw=>⟨D1,rfl,rfl,k1⟩)
theorem zW (w0:af Ψ Φ [ob pv0_0,pD0_0,ob pv0_1,pD0_1].flatten) (p0:bc) (p1:Int) (ph0_0:OSl aU 142 4 Φ pD0_0 pv0_0 p0.Alphas) (ph0_1:OSl aJ 149 2 Φ pD0_1 pv0_1 p0.Chains) {r:Int × (List a9) × (List ae)} (h:oE N p0 p1=some r) :
  Calls prog 19 [.agg [pv0_0,pv0_1].toArray,iV p1].toArray w0.w (aQ Φ w0.w [ob pv0_0,pD0_0,ob pv0_1,pD0_1].flatten (fun Φ' Fs v=>∃ (Do_0_0:List Nat) (Do_1_0:List Nat),v=iV r.1∧Fs=[ob pv0_0,Do_0_0,ob pv0_1,Do_1_0]∧OSl aU 142 4 Φ' Do_0_0 pv0_0 r.2.1∧OSl aJ 149 2 Φ' Do_1_0 pv0_1 r.2.2)):=by
 refine eL func19 rfl ntmps19 rfl (L:=[ob pv0_0,pD0_0,ob pv0_1,pD0_1]) w0 (fun hF=>?_)
 unfold oE at h
 refine sr<|lbx rfl fun b_1=>arr 7 [0,0] rfl<|kcb [0,0] h rfl rfl rfl rfl (fun b ap z q=>wd N b p0.Alphas p1 ph0_0 q) ?_
 rintro x1 h v1 Φ_1 F1 ⟨ap1,fr1,D1,rfl,rfl,h1⟩
 replace ph0_1:=ph0_1.fr fr1 (ap1.q 0 rfl) (ap1.q 1 rfl)
 refine arr 7 [1,0] rfl<|kcb [2,2] h rfl rfl rfl rfl (fun b ap z q=>w7 N b p0.Chains x1.1 ph0_1 q) ?_
 rintro x2 h v2 Φ_2 F2 ⟨ap2,fr2,D2,rfl,rfl,h2⟩
 replace h1:=h1.fr fr2 (ap2.q 0 rfl) (ap2.q 1 rfl)
 refine art 7 [] rfl ?_
 exact rtg [2,2,0,0] hF (ay.one rfl) rfl (by cases h; exact fun w1 hw=>⟨D1,D2,rfl,rfl,h1,h2⟩)
theorem yv (w0:af Ψ Φ [ob pv0,pD0].flatten) (p0:(List aS)) (p1:Int) (ph0:OSl aO 123 1 Φ pD0 pv0 p0) {r:Int × (List aS)} (h:pY N p0 p1=some r) :
  Calls prog 50 [pv0,iV p1].toArray w0.w (aQ Φ w0.w [ob pv0,pD0].flatten (fun Φ' Fs v=>∃ (Do_0_0:List Nat),v=iV r.1∧Fs=[ob pv0,Do_0_0]∧OSl aO 123 1 Φ' Do_0_0 pv0 r.2)):=by
 refine eL func50 rfl ntmps50 rfl (L:=[ob pv0,pD0]) w0 (fun hF=>?_)
 unfold pY at h
 refine att 10 [] rfl ?_
 refine lin (σ:=Hp × (List aS) × List Nat × Int × Int) (fun s=>[(0,pv0),(1,iV s.2.2.2.1),(5,iV s.2.2.2.2)]) (fun s=>St w0 s.1 [] [ob pv0,s.2.2.1]) (fun m s=>fw N m s.2.1 s.2.2.2.1 s.2.2.2.2=some r∧(OSl aO 123 1 s.1 s.2.2.1 pv0 s.2.1)) (Φ,p0,pD0,p1,0) N ⟨h,ph0⟩ (sx [0,0] []) (fun n1 ih1 s hm=>?_)
 obtain ⟨Φ_1,s1,D1,s2,s3⟩:=s
 obtain ⟨h,k1⟩:=hm
 dsimp only at h k1 ⊢
 unfold fw at h
 refine atr 5 [] rfl<|lno k1 rfl<|la rfl<|en ?_
 refine ch h rfl ?_ ?_ <;> intro h
 ·refine atr 6 [] rfl ?_
  obtain ⟨x1,hx1,h⟩:=bs h
  obtain ⟨cs1,F1,D2,h1,r1,kf1,sp1⟩:=k1.focus hx1
  obtain ⟨v1,rfl,rfl,h2⟩:=r1
  refine wlL [ob v1,D2,ob pv0] (sre [1] [ob v1,D2] rfl (by simpa [List.append_assoc] using sp1))<|lih h1 hx1 rfl<|lf mr rfl rfl rfl<|lgx 0 0 h1.rg rfl<|la rfl<|kcb [0] h rfl rfl rfl rfl (fun b ap z q=>gO N b x1.L s2 h2 q) ?_
  rintro x2 h v2 Φ_2 F2 ⟨ap1,fr1,rfl,rfl,h3⟩
  replace h1:=h1.fr fr1 (ap1.q 1 rfl) (ap1.q 0 rfl)
  refine art 8 [] rfl ?_
  have r2:aO Φ_2 _ [v1] (⟨x2.2⟩:aS):=⟨v1,rfl,rfl,h3⟩
  obtain ⟨D3,h4,sp2⟩:=h1.unfocus r2 (aO.knows _ _ _ _ r2)
  refine wtL [D3,ob pv0] (smg [0,0] rfl (by simpa [List.append_assoc,bl] using sp2)) ?_
  exact lb [1,0] [] (ih1 (_,_,_,_,_) ⟨h,h4⟩)
 refine att 6 [] rfl ?_
 exact rtg [0,0] hF (ay.one rfl) rfl (by cases h; exact fun w1 hw=>⟨D1,rfl,rfl,k1⟩)
theorem yu (w0:af Ψ Φ [ob pv0,pD0].flatten) (p0:(List ab)) (p1:Int) (ph0:OSl ax 160 2 Φ pD0 pv0 p0) {r:Int × (List ab)} (h:pW N p0 p1=some r) :
  Calls prog 147 [pv0,iV p1].toArray w0.w (aQ Φ w0.w [ob pv0,pD0].flatten (fun Φ' Fs v=>∃ (Do_0_0:List Nat),v=iV r.1∧Fs=[ob pv0,Do_0_0]∧OSl ax 160 2 Φ' Do_0_0 pv0 r.2)):=by
 refine eL func147 rfl ntmps147 rfl (L:=[ob pv0,pD0]) w0 (fun hF=>?_)
 unfold pW at h
 refine att 10 [] rfl ?_
 refine lin (σ:=Hp × (List ab) × List Nat × Int × Int) (fun s=>[(0,pv0),(1,iV s.2.2.2.1),(5,iV s.2.2.2.2)]) (fun s=>St w0 s.1 [] [ob pv0,s.2.2.1]) (fun m s=>fB N m s.2.1 s.2.2.2.1 s.2.2.2.2=some r∧(OSl ax 160 2 s.1 s.2.2.1 pv0 s.2.1)) (Φ,p0,pD0,p1,0) N ⟨h,ph0⟩ (sx [0,0] []) (fun n1 ih1 s hm=>?_)
 obtain ⟨Φ_1,s1,D1,s2,s3⟩:=s
 obtain ⟨h,k1⟩:=hm
 dsimp only at h k1 ⊢
 unfold fB at h
 refine atr 5 [] rfl<|lno k1 rfl<|la rfl<|en ?_
 refine ch h rfl ?_ ?_ <;> intro h
 ·refine atr 7 [] rfl ?_
  obtain ⟨x1,hx1,h⟩:=bs h
  obtain ⟨cs1,F1,D2,h1,r1,kf1,sp1⟩:=k1.focus hx1
  obtain ⟨v1,v2,rfl,rfl,h2,h3⟩:=r1
  refine wlL [ob v1,ob v2,D2,ob pv0] (sre [1] [ob v1,ob v2,D2] rfl (by simpa [List.append_assoc] using sp1))<|lih h1 hx1 rfl<|lf o2 rfl rfl rfl<|lgx 0 0 h1.rg rfl<|la rfl<|kcb [0] h rfl rfl rfl rfl (fun b ap z q=>gO N b x1.Ids s2 h2 q) ?_
  rintro x2 h v3 Φ_2 F2 ⟨ap1,fr1,rfl,rfl,h4⟩
  replace h1:=h1.fr fr1 (ap1.q 2 rfl) (ap1.q 1 rfl)
  replace h3:=h3.fr fr1 (ap1.q 0 rfl) dN
  refine arr 5 [] rfl<|lih h1 hx1 rfl<|lf lW rfl rfl rfl<|lgx 1 0 h1.rg rfl<|la rfl<|kcb [1] h rfl rfl rfl rfl (fun b ap z q=>gO N b x1.Hits x2.1 h3 q) ?_
  rintro x3 h v4 Φ_3 F3 ⟨ap2,fr2,rfl,rfl,h5⟩
  replace h1:=h1.fr fr2 (ap2.q 2 rfl) (ap2.q 1 rfl)
  replace h4:=h4.fr fr2 (ap2.q 0 rfl) dN
  refine art 8 [] rfl ?_
  have r2:ax Φ_3 _ [v1,v2] (⟨x2.2,x3.2⟩:ab):=⟨v1,v2,rfl,rfl,h4,h5⟩
  obtain ⟨D3,h6,sp2⟩:=h1.unfocus r2 (ax.knows _ _ _ _ r2)
  refine wtL [D3,ob pv0] (smg [1,0,0] rfl (by simpa [List.append_assoc,bl] using sp2)) ?_
  exact lb [1,0] [] (ih1 (_,_,_,_,_) ⟨h,h6⟩)
 refine att 6 [] rfl ?_
 exact rtg [0,0] hF (ay.one rfl) rfl (by cases h; exact fun w1 hw=>⟨D1,rfl,rfl,k1⟩)
theorem wE (w0:af Ψ Φ [ob pv0,pD0].flatten) (p0:(List aa)) (p1:Int) (ph0:OSl aK 130 1 Φ pD0 pv0 p0) {r:Int × (List aa)} (h:mV N p0 p1=some r) :
  Calls prog 95 [pv0,iV p1].toArray w0.w (aQ Φ w0.w [ob pv0,pD0].flatten (fun Φ' Fs v=>∃ (Do_0_0:List Nat),v=iV r.1∧Fs=[ob pv0,Do_0_0]∧OSl aK 130 1 Φ' Do_0_0 pv0 r.2)):=by
 refine eL func95 rfl ntmps95 rfl (L:=[ob pv0,pD0]) w0 (fun hF=>?_)
 unfold mV at h
 refine att 10 [] rfl ?_
 refine lin (σ:=Hp × (List aa) × List Nat × Int × Int) (fun s=>[(0,pv0),(1,iV s.2.2.2.1),(5,iV s.2.2.2.2)]) (fun s=>St w0 s.1 [] [ob pv0,s.2.2.1]) (fun m s=>dJ N m s.2.1 s.2.2.2.1 s.2.2.2.2=some r∧(OSl aK 130 1 s.1 s.2.2.1 pv0 s.2.1)) (Φ,p0,pD0,p1,0) N ⟨h,ph0⟩ (sx [0,0] []) (fun n1 ih1 s hm=>?_)
 obtain ⟨Φ_1,s1,D1,s2,s3⟩:=s
 obtain ⟨h,k1⟩:=hm
 dsimp only at h k1 ⊢
 unfold dJ at h
 refine atr 5 [] rfl<|lno k1 rfl<|la rfl<|en ?_
 refine ch h rfl ?_ ?_ <;> intro h
 ·refine atr 6 [] rfl ?_
  obtain ⟨x1,hx1,h⟩:=bs h
  obtain ⟨cs1,F1,D2,h1,r1,kf1,sp1⟩:=k1.focus hx1
  obtain ⟨v1,D3,rfl,rfl,h2⟩:=r1
  refine wlL [ob v1,D3,D2,ob pv0] (sre [1] [ob v1,D3,D2] rfl (by simpa [List.append_assoc] using sp1))<|lih h1 hx1 rfl<|lf gg rfl rfl rfl<|lgx 0 0 h1.rg rfl<|la rfl<|kcb [0,0] h rfl rfl rfl rfl (fun b ap z q=>yu N b x1.Toks s2 h2 q) ?_
  rintro x2 h v2 Φ_2 F2 ⟨ap1,fr1,D4,rfl,rfl,h3⟩
  replace h1:=h1.fr fr1 (ap1.q 1 rfl) (ap1.q 0 rfl)
  refine art 8 [] rfl ?_
  have r2:aK Φ_2 _ [v1] (⟨x2.2⟩:aa):=⟨v1,D4,rfl,rfl,h3⟩
  obtain ⟨D5,h4,sp2⟩:=h1.unfocus r2 (aK.knows _ _ _ _ r2)
  refine wtL [D5,ob pv0] (smg [0,0,0] rfl (by simpa [List.append_assoc,bl] using sp2)) ?_
  exact lb [1,0] [] (ih1 (_,_,_,_,_) ⟨h,h4⟩)
 refine att 6 [] rfl ?_
 exact rtg [0,0] hF (ay.one rfl) rfl (by cases h; exact fun w1 hw=>⟨D1,rfl,rfl,k1⟩)
theorem yy (w0:af Ψ Φ [ob pv0,pD0].flatten) (p0:(List aF)) (p1:Int) (ph0:OSl aP 126 1 Φ pD0 pv0 p0) {r:Int × (List aF)} (h:pS N p0 p1=some r) :
  Calls prog 51 [pv0,iV p1].toArray w0.w (aQ Φ w0.w [ob pv0,pD0].flatten (fun Φ' Fs v=>∃ (Do_0_0:List Nat),v=iV r.1∧Fs=[ob pv0,Do_0_0]∧OSl aP 126 1 Φ' Do_0_0 pv0 r.2)):=by
 refine eL func51 rfl ntmps51 rfl (L:=[ob pv0,pD0]) w0 (fun hF=>?_)
 unfold pS at h
 refine att 10 [] rfl ?_
 refine lin (σ:=Hp × (List aF) × List Nat × Int × Int) (fun s=>[(0,pv0),(1,iV s.2.2.2.1),(5,iV s.2.2.2.2)]) (fun s=>St w0 s.1 [] [ob pv0,s.2.2.1]) (fun m s=>fH N m s.2.1 s.2.2.2.1 s.2.2.2.2=some r∧(OSl aP 126 1 s.1 s.2.2.1 pv0 s.2.1)) (Φ,p0,pD0,p1,0) N ⟨h,ph0⟩ (sx [0,0] []) (fun n1 ih1 s hm=>?_)
 obtain ⟨Φ_1,s1,D1,s2,s3⟩:=s
 obtain ⟨h,k1⟩:=hm
 dsimp only at h k1 ⊢
 unfold fH at h
 refine atr 5 [] rfl<|lno k1 rfl<|la rfl<|en ?_
 refine ch h rfl ?_ ?_ <;> intro h
 ·refine atr 6 [] rfl ?_
  obtain ⟨x1,hx1,h⟩:=bs h
  obtain ⟨cs1,F1,D2,h1,r1,kf1,sp1⟩:=k1.focus hx1
  obtain ⟨v1,D3,rfl,rfl,h2⟩:=r1
  refine wlL [ob v1,D3,D2,ob pv0] (sre [1] [ob v1,D3,D2] rfl (by simpa [List.append_assoc] using sp1))<|lih h1 hx1 rfl<|lf jA rfl rfl rfl<|lgx 0 0 h1.rg rfl<|la rfl<|kcb [0,0] h rfl rfl rfl rfl (fun b ap z q=>wE N b x1.Levels s2 h2 q) ?_
  rintro x2 h v2 Φ_2 F2 ⟨ap1,fr1,D4,rfl,rfl,h3⟩
  replace h1:=h1.fr fr1 (ap1.q 1 rfl) (ap1.q 0 rfl)
  refine art 8 [] rfl ?_
  have r2:aP Φ_2 _ [v1] (⟨x2.2⟩:aF):=⟨v1,D4,rfl,rfl,h3⟩
  obtain ⟨D5,h4,sp2⟩:=h1.unfocus r2 (aP.knows _ _ _ _ r2)
  refine wtL [D5,ob pv0] (smg [0,0,0] rfl (by simpa [List.append_assoc,bl] using sp2)) ?_
  exact lb [1,0] [] (ih1 (_,_,_,_,_) ⟨h,h4⟩)
 refine att 6 [] rfl ?_
 exact rtg [0,0] hF (ay.one rfl) rfl (by cases h; exact fun w1 hw=>⟨D1,rfl,rfl,k1⟩)
theorem uz (w0:af Ψ Φ [ob pv0_0,pD0_0,ob pv0_1,pD0_1].flatten) (p0:aA) (p1:Int) (ph0_0:OSl aO 123 1 Φ pD0_0 pv0_0 p0.Alphas) (ph0_1:OSl aP 126 1 Φ pD0_1 pv0_1 p0.Rules) {r:Int × (List aS) × (List aF)} (h:ml N p0 p1=some r) :
  Calls prog 20 [.agg [pv0_0,pv0_1].toArray,iV p1].toArray w0.w (aQ Φ w0.w [ob pv0_0,pD0_0,ob pv0_1,pD0_1].flatten (fun Φ' Fs v=>∃ (Do_0_0:List Nat) (Do_1_0:List Nat),v=iV r.1∧Fs=[ob pv0_0,Do_0_0,ob pv0_1,Do_1_0]∧OSl aO 123 1 Φ' Do_0_0 pv0_0 r.2.1∧OSl aP 126 1 Φ' Do_1_0 pv0_1 r.2.2)):=by
 refine eL func20 rfl ntmps20 rfl (L:=[ob pv0_0,pD0_0,ob pv0_1,pD0_1]) w0 (fun hF=>?_)
 unfold ml at h
 refine sr<|lbx rfl fun b_1=>arr 7 [0,0] rfl<|kcb [0,0] h rfl rfl rfl rfl (fun b ap z q=>yv N b p0.Alphas p1 ph0_0 q) ?_
 rintro x1 h v1 Φ_1 F1 ⟨ap1,fr1,D1,rfl,rfl,h1⟩
 replace ph0_1:=ph0_1.fr fr1 (ap1.q 0 rfl) (ap1.q 1 rfl)
 refine arr 7 [1,0] rfl<|kcb [2,2] h rfl rfl rfl rfl (fun b ap z q=>yy N b p0.Rules x1.1 ph0_1 q) ?_
 rintro x2 h v2 Φ_2 F2 ⟨ap2,fr2,D2,rfl,rfl,h2⟩
 replace h1:=h1.fr fr2 (ap2.q 0 rfl) (ap2.q 1 rfl)
 refine art 7 [] rfl ?_
 exact rtg [2,2,0,0] hF (ay.one rfl) rfl (by cases h; exact fun w1 hw=>⟨D1,D2,rfl,rfl,h1,h2⟩)
theorem wZ (w0:af Ψ Φ [ob pv0,pD0].flatten) (p0:(List aC)) (p1:Int) (ph0:OSl bG 156 3 Φ pD0 pv0 p0) {r:Int × (List aC)} (h:om N p0 p1=some r) :
  Calls prog 52 [pv0,iV p1].toArray w0.w (aQ Φ w0.w [ob pv0,pD0].flatten (fun Φ' Fs v=>∃ (Do_0_0:List Nat),v=iV r.1∧Fs=[ob pv0,Do_0_0]∧OSl bG 156 3 Φ' Do_0_0 pv0 r.2)):=by
 refine eL func52 rfl ntmps52 rfl (L:=[ob pv0,pD0]) w0 (fun hF=>?_)
 unfold om at h
 refine att 10 [] rfl ?_
 refine lin (σ:=Hp × (List aC) × List Nat × Int × Int) (fun s=>[(0,pv0),(1,iV s.2.2.2.1),(5,iV s.2.2.2.2)]) (fun s=>St w0 s.1 [] [ob pv0,s.2.2.1]) (fun m s=>eA N m s.2.1 s.2.2.2.1 s.2.2.2.2=some r∧(OSl bG 156 3 s.1 s.2.2.1 pv0 s.2.1)) (Φ,p0,pD0,p1,0) N ⟨h,ph0⟩ (sx [0,0] []) (fun n1 ih1 s hm=>?_)
 obtain ⟨Φ_1,s1,D1,s2,s3⟩:=s
 obtain ⟨h,k1⟩:=hm
 dsimp only at h k1 ⊢
 unfold eA at h
 refine atr 5 [] rfl<|lno k1 rfl<|la rfl<|en ?_
 refine ch h rfl ?_ ?_ <;> intro h
 ·refine atr 8 [] rfl ?_
  obtain ⟨x1,hx1,h⟩:=bs h
  obtain ⟨cs1,F1,D2,h1,r1,kf1,sp1⟩:=k1.focus hx1
  obtain ⟨v1,rfl,rfl,h2⟩:=r1
  refine wlL [ob v1,D2,ob pv0] (sre [1] [ob v1,D2] rfl (by simpa [List.append_assoc] using sp1))<|lih h1 hx1 rfl<|lf sU rfl rfl rfl<|lu (us [2] [ob v1,D2] 0 bG.lasts j5 rfl rfl rfl rfl h1 rfl (fun ap=>ap.q 1 rfl)) rfl ?_
  rintro Φ_2 D3 ⟨⟨ap1,fr1⟩,h3⟩
  replace h2:=h2.fr fr1 (ap1.q 0 rfl) dN
  refine arr 12 [] rfl<|qc h (bg N · (wz (s2+1)) ·) rfl rfl rfl fun x2 h=>lih h3 hx1 rfl<|arr 2 [1,0] rfl<|lu (us [0] [ob v1,D2] 1 bG.lasts nA rfl rfl rfl rfl h3 rfl (fun ap=>ap.q 1 rfl)) rfl ?_
  rintro Φ_3 D4 ⟨⟨ap2,fr2⟩,h4⟩
  replace h2:=h2.fr fr2 (ap2.q 0 rfl) dN
  refine arr 10 [] rfl<|lih h4 hx1 rfl<|arr 2 [1,1] rfl<|lq (aW N3 rfl (fun w1 hw=>(h4.rg.of_eq 2 1 (by omega) rfl:rg _ _ _ [v1]).rangeAt hw.fro)) rfl<|la rfl<|kcb [1] h rfl rfl rfl rfl (fun b ap z q=>tZ N b x1.F.Fields (wz ((wz (s2+1))+1)) h2 q) ?_
  rintro x3 h v2 Φ_4 F2 ⟨ap3,fr3,rfl,rfl,h5⟩
  replace h4:=h4.fr fr3 (ap3.q 0 rfl) (ap3.q 1 rfl)
  refine art 8 [] rfl ?_
  have r2:bG Φ_4 _ [iV s2,.string x2,v1] (⟨s2,(⟨x2,x3.2⟩:aw)⟩:aC):=⟨v1,rfl,rfl,h5⟩
  obtain ⟨D5,h6,sp2⟩:=h4.unfocus r2 (bG.knows _ _ _ _ r2)
  refine wtL [D5,ob pv0] (smg [0,1] rfl (by simpa [List.append_assoc,bl] using sp2)) ?_
  exact lb [1,0] [] (ih1 (_,_,_,_,_) ⟨h,h6⟩)
 refine att 6 [] rfl ?_
 exact rtg [0,0] hF (ay.one rfl) rfl (by cases h; exact fun w1 hw=>⟨D1,rfl,rfl,k1⟩)
theorem xh (w0:af Ψ Φ [ob pv0_0,pD0_0].flatten) (p0:ah) (p1:Int) (ph0_0:OSl bG 156 3 Φ pD0_0 pv0_0 p0.Items) {r:Int × (List aC)} (h:kZ N p0 p1=some r) :
  Calls prog 21 [.agg [pv0_0,iV p0.Next].toArray,iV p1].toArray w0.w (aQ Φ w0.w [ob pv0_0,pD0_0].flatten (fun Φ' Fs v=>∃ (Do_0_0:List Nat),v=iV r.1∧Fs=[ob pv0_0,Do_0_0]∧OSl bG 156 3 Φ' Do_0_0 pv0_0 r.2)):=by
 refine eL func21 rfl ntmps21 rfl (L:=[ob pv0_0,pD0_0]) w0 (fun hF=>?_)
 unfold kZ at h
 refine sr<|lbx rfl fun b_1=>arr 7 [0,0] rfl<|kcb [0,0] h rfl rfl rfl rfl (fun b ap z q=>wZ N b p0.Items p1 ph0_0 q) ?_
 rintro x1 h v1 Φ_1 F1 ⟨ap1,fr1,D1,rfl,rfl,h1⟩
 refine art 7 [] rfl ?_
 exact rtg [0,0] hF (ay.one rfl) rfl (by cases h; exact fun w1 hw=>⟨D1,rfl,rfl,h1⟩)
theorem po (w0:af Ψ Φ []) (p0:(List Int)) (p1:Int) (ph0:RSl (RI .i64) 1 Ψ pG0 pv0 p0) {r:Int} (h:iT N p0 p1=some r) :
  CB w0 prog 96 [pv0,iV p1] (iV r):=by
 refine eN func96 rfl ntmps96 rfl w0 fun hF=>?_
 unfold iT at h
 refine att 10 [] rfl ?_
 refine lin (σ:=Int × Int) (fun s=>[(0,pv0),(1,iV s.1),(5,iV s.2)]) (fun s=>St w0 Φ [] []) (fun m s=>eo N p0 m s.1 s.2=some r) (p1,0) N h (sx [] []) (fun n1 ih1 s hm=>?_)
 obtain ⟨s1,s2⟩:=s
 have h:eo N p0 (n1+1) s1 s2=some r:=hm
 show WT _ _ [(0,pv0),(1,iV s1),(5,iV s2)] (St w0 Φ [] [])
 unfold eo at h
 refine atr 5 [] rfl<|lnr ph0 rfl<|la rfl<|en ?_
 refine ch h rfl ?_ ?_ <;> intro h
 ·refine atr 8 [] rfl ?_
  obtain ⟨x1,hx1,h⟩:=bs h
  obtain ⟨cs1,F1,-,g1,hb1,hs1,r1⟩:=ph0.el (a7 hx1).2.2
  obtain ⟨rfl,-⟩:=r1
  refine lia ph0 hx1 rfl<|lhx 0 0 g1 rfl<|art 3 [] rfl ?_
  refine ch h rfl ?_ ?_ <;> intro h
  ·refine att 4 [] rfl ?_
   exact rt hF h
  refine att 12 [] rfl ?_
  exact lb [] [] (ih1 (_,_) h)
 refine att 6 [] rfl ?_
 exact rt hF h
theorem yx (w0:af Ψ Φ []) (p0:(List aS)) (p1:Int) (ph0:RSl dD 1 Ψ pG0 pv0 p0) {r:Int} (h:nm N p0 p1=some r) :
  CB w0 prog 53 [pv0,iV p1] (iV r):=by
 refine eN func53 rfl ntmps53 rfl w0 fun hF=>?_
 unfold nm at h
 refine att 10 [] rfl ?_
 refine lin (σ:=Int × Int) (fun s=>[(0,pv0),(1,iV s.1),(5,iV s.2)]) (fun s=>St w0 Φ [] []) (fun m s=>ei N p0 m s.1 s.2=some r) (p1,0) N h (sx [] []) (fun n1 ih1 s hm=>?_)
 obtain ⟨s1,s2⟩:=s
 have h:ei N p0 (n1+1) s1 s2=some r:=hm
 show WT _ _ [(0,pv0),(1,iV s1),(5,iV s2)] (St w0 Φ [] [])
 unfold ei at h
 refine atr 5 [] rfl<|lnr ph0 rfl<|la rfl<|en ?_
 refine ch h rfl ?_ ?_ <;> intro h
 ·refine atr 7 [] rfl ?_
  obtain ⟨x1,hx1,h⟩:=bs h
  obtain ⟨cs1,F1,-,g1,hb1,hs1,r1⟩:=ph0.el (a7 hx1).2.2
  obtain ⟨v1,G1,rfl,hq1,h1⟩:=r1
  obtain rfl:=hq1.symm
  refine lia ph0 hx1 rfl<|lf mr rfl rfl rfl<|lhx 0 0 g1 rfl<|la rfl<|qd h (po N · x1.L s1 h1 ·) rfl rfl rfl fun x2 h=>art 7 [] rfl ?_
  refine ch h rfl ?_ ?_ <;> intro h
  ·refine att 4 [] rfl ?_
   exact rt hF h
  refine att 7 [] rfl ?_
  exact lb [] [] (ih1 (_,_) h)
 refine att 6 [] rfl ?_
 exact rt hF h
theorem yI (w0:af Ψ Φ []) (p0:(List ab)) (p1:Int) (ph0:RSl cD 2 Ψ pG0 pv0 p0) {r:Int} (h:mH N p0 p1=some r) :
  CB w0 prog 148 [pv0,iV p1] (iV r):=by
 refine eN func148 rfl ntmps148 rfl w0 fun hF=>?_
 unfold mH at h
 refine att 10 [] rfl ?_
 refine lin (σ:=Int × Int) (fun s=>[(0,pv0),(1,iV s.1),(5,iV s.2)]) (fun s=>St w0 Φ [] []) (fun m s=>eg N p0 m s.1 s.2=some r) (p1,0) N h (sx [] []) (fun n1 ih1 s hm=>?_)
 obtain ⟨s1,s2⟩:=s
 have h:eg N p0 (n1+1) s1 s2=some r:=hm
 show WT _ _ [(0,pv0),(1,iV s1),(5,iV s2)] (St w0 Φ [] [])
 unfold eg at h
 refine atr 5 [] rfl<|lnr ph0 rfl<|la rfl<|en ?_
 refine ch h rfl ?_ ?_ <;> intro h
 ·refine atr 7 [] rfl ?_
  obtain ⟨x1,hx1,h⟩:=bs h
  obtain ⟨cs1,F1,-,g1,hb1,hs1,r1⟩:=ph0.el (a7 hx1).2.2
  obtain ⟨v1,G1,v2,G2,rfl,rfl,h1,h2⟩:=r1
  refine lia ph0 hx1 rfl<|lf o2 rfl rfl rfl<|lhx 0 0 g1 rfl<|la rfl<|qd h (po N · x1.Ids s1 h1 ·) rfl rfl rfl fun x2 h=>art 8 [] rfl ?_
  refine ch h rfl ?_ ?_ <;> intro h
  ·refine att 4 [] rfl ?_
   exact rt hF h
  refine atr 5 [] rfl ?_
  obtain ⟨x3,hx3,h⟩:=bs h
  obtain ⟨cs2,F2,-,g2,hb2,hs2,r2⟩:=ph0.el (a7 hx3).2.2
  obtain ⟨v3,G3,v4,G4,rfl,rfl,h3,h4⟩:=r2
  refine lia ph0 hx3 rfl<|lf lW rfl rfl rfl<|lhx 1 0 g2 rfl<|la rfl<|qd h (po N · x3.Hits x2 h4 ·) rfl rfl rfl fun x4 h=>art 7 [] rfl ?_
  refine ch h rfl ?_ ?_ <;> intro h
  ·refine att 4 [] rfl ?_
   exact rt hF h
  refine att 7 [] rfl ?_
  exact lb [] [] (ih1 (_,_) h)
 refine att 6 [] rfl ?_
 exact rt hF h
theorem wC (w0:af Ψ Φ []) (p0:(List aa)) (p1:Int) (ph0:RSl ed 1 Ψ pG0 pv0 p0) {r:Int} (h:jO N p0 p1=some r) :
  CB w0 prog 97 [pv0,iV p1] (iV r):=by
 refine eN func97 rfl ntmps97 rfl w0 fun hF=>?_
 unfold jO at h
 refine att 10 [] rfl ?_
 refine lin (σ:=Int × Int) (fun s=>[(0,pv0),(1,iV s.1),(5,iV s.2)]) (fun s=>St w0 Φ [] []) (fun m s=>cZ N p0 m s.1 s.2=some r) (p1,0) N h (sx [] []) (fun n1 ih1 s hm=>?_)
 obtain ⟨s1,s2⟩:=s
 have h:cZ N p0 (n1+1) s1 s2=some r:=hm
 show WT _ _ [(0,pv0),(1,iV s1),(5,iV s2)] (St w0 Φ [] [])
 unfold cZ at h
 refine atr 5 [] rfl<|lnr ph0 rfl<|la rfl<|en ?_
 refine ch h rfl ?_ ?_ <;> intro h
 ·refine atr 7 [] rfl ?_
  obtain ⟨x1,hx1,h⟩:=bs h
  obtain ⟨cs1,F1,-,g1,hb1,hs1,r1⟩:=ph0.el (a7 hx1).2.2
  obtain ⟨v1,G1,rfl,hq1,h1⟩:=r1
  obtain rfl:=hq1.symm
  refine lia ph0 hx1 rfl<|lf gg rfl rfl rfl<|lhx 0 0 g1 rfl<|la rfl<|qd h (yI N · x1.Toks s1 h1 ·) rfl rfl rfl fun x2 h=>art 7 [] rfl ?_
  refine ch h rfl ?_ ?_ <;> intro h
  ·refine att 4 [] rfl ?_
   exact rt hF h
  refine att 7 [] rfl ?_
  exact lb [] [] (ih1 (_,_) h)
 refine att 6 [] rfl ?_
 exact rt hF h
end Go.Proofs.YtnnkgijdbebnaaaGreat
