/- Printed by a program of ours: each Go function computes its Lean function. -/
import Derived.Test.YtedmfnmbjglmbaaGreatProg
import Derived.Test.YtedmfnmbjglmbaaGreatWBuiltUpWalk6
namespace Go.Proofs.YtedmfnmbjglmbaaGreat
open Eng Tryz
open Go.RowKit (Below)
set_option linter.unusedVariables false
set_option linter.unusedSimpArgs false

set_option maxRecDepth 100000
set_option maxHeartbeats 1000000
variable {Ψ Φ:Hp} {pv0 pv1:Value} {pG0 pG1 pD0:List Nat} {pb0:Nat} (N:Nat)
theorem fS {p2f:Nat} {p2fr:List Value} (w0:av Ψ Φ []) (p0:(List aO)) (p1:(List aO)) (p2:aO→aO→Option (Bool)) (ph0:RSl gD 1 Ψ pG0 pv0 p0) (ph1:RSl gD 1 Ψ pG1 pv1 p1) (p2hF:Fun prog p2f=true) (p2h:∀ {Φ':Hp} {w':World},FrH [] Φ Φ'→In Φ' w'→∀ (p2a0:aO) (p2a1:aO) {p2v0_0:Value} {p2G0_0:List Nat} {p2v1_0:Value} {p2G1_0:List Nat} (_:RSl dY 2 Φ' p2G0_0 p2v0_0 p2a0.Toks) (_:RSl dY 2 Φ' p2G1_0 p2v1_0 p2a1.Toks) {r:Bool},p2 p2a0 p2a1=some r→Calls prog p2f (([.agg [p2v0_0].toArray,.agg [p2v1_0].toArray]:List Value)++p2fr).toArray w' (lh (.bool r) w')) {r:Bool} (h:bt N p0 p1 p2=some r) :
  CB w0 prog 113 [pv0,pv1,.func (.func p2f) #[] p2fr.toArray] (.bool r):=by
 refine eN func113 rfl ntmps113 rfl w0 fun hF=>?_
 unfold bt at h
 refine atr 8 [] rfl<|lnr ph0 rfl<|la rfl<|lnr ph1 rfl<|la rfl<|en ?_
 refine ch h rfl ?_ ?_ <;> intro h
 ·refine att 4 [] rfl ?_
  exact rt hF h
 refine atr 5 [] rfl<|lnr ph0 rfl<|art 3 [] rfl ?_
 refine lin (σ:=Int) (fun s=>[(1,pv1),(2,.func (.func p2f) #[] p2fr.toArray),(15,pv0),(16,iV (p0.length:Int)),(17,iV s)]) (fun s=>St w0 Φ [] []) (fun m s=>aq N p0 p1 p2 m s=some r) (0) N h (sx [] []) (fun n1 ih1 s hm=>?_)
 revert hm; revert s; intro s1 hm
 have h:aq N p0 p1 p2 (n1+1) s1=some r:=hm
 show WT _ _ [(1,pv1),(2,.func (.func p2f) #[] p2fr.toArray),(15,pv0),(16,iV (p0.length:Int)),(17,iV s1)] (St w0 Φ [] [])
 unfold aq at h
 refine att 5 [] rfl ?_
 refine ch h rfl ?_ ?_ <;> intro h
 ·refine atr 6 [] rfl ?_
  obtain ⟨x1,hx1,h⟩:=bs h
  obtain ⟨cs1,F1,-,g1,hb1,hs1,r1⟩:=ph0.el (ab hx1).2.2
  obtain ⟨v1,G1,rfl,hq1,h1⟩:=r1
  obtain rfl:=hq1.symm
  refine lia ph0 hx1 rfl<|lhx 0 1 g1 rfl ?_
  refine ln (mY (C:=#[.slice none 0 0]) BN rfl) rfl (fun b_1=>?_)
  refine la rfl<|soN 0 FN rfl ⟨h1.one,trivial⟩ rfl ?_
  refine arr 5 [] rfl ?_
  obtain ⟨x2,hx2,h⟩:=bs h
  obtain ⟨cs2,F2,-,g2,hb2,hs2,r2⟩:=ph1.el (ab hx2).2.2
  obtain ⟨v2,G2,rfl,hq2,h2⟩:=r2
  obtain rfl:=hq2.symm
  refine lia ph1 hx2 rfl<|lhx 0 1 g2 rfl ?_
  refine ln (mY (C:=#[.slice none 0 0]) BN rfl) rfl (fun b_2=>?_)
  refine soN 0 FN rfl ⟨h2.one,trivial⟩ rfl ?_
  refine arr 4 [] rfl<|lq (aG ET rfl (fun w1 hw=>hw.rgO (i:=1) rfl 0 1 [v1] rfl) rfl) rfl<|lq (aG ET rfl (fun w1 hw=>hw.rgO (i:=0) rfl 0 1 [v2] rfl) rfl) rfl ?_
  obtain ⟨x3,hx3,h⟩:=bs h
  refine lp (m6 p2hF rfl rfl (fun w1 hw=>p2h hw.frB hw.fro x1 x2 (h1.y hw.up) (h2.y hw.up) hx3)) rfl<|la rfl<|en ?_
  refine ch h rfl ?_ ?_ <;> intro h
  ·refine att 4 [] rfl ?_
   exact rt hF h
  refine att 6 [] rfl ?_
  exact lb [] [] (ih1 _ h)
 refine att 5 [] rfl ?_
 exact rt hF h
end Go.Proofs.YtedmfnmbjglmbaaGreat
