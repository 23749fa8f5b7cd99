/- Printed by a program of ours: each Go function computes its Lean function. -/
import Derived.Test.YtkdffjpgnhobhaaGreatProg
import Derived.Test.YtkdffjpgnhobhaaGreatWExactDropItemWalk1
namespace Go.Proofs.YtkdffjpgnhobhaaGreat
open Eng Tryz
open Go.RowKit (Below)
set_option linter.unusedVariables false
set_option linter.unusedSimpArgs false

set_option maxRecDepth 100000
set_option maxHeartbeats 1000000
variable {Ψ Φ:Hp} {pv0 pv0_0 pv1 pv1_0 pv0_1 pv0_2 pv1_1:Value} {pG0 pG0_0 pG1 pG1_0 pG0_1 pG0_2 pG1_1 pD0_0:List Nat} {pb0:Nat} (N:Nat)
theorem vE  (w0:ab Ψ Φ []) (p0:aE)  {r:Bool} (h:pt N p0=some r) :
  CB w0 prog 193 [.agg [iV p0.K,iV p0.N,.string p0.S].toArray] (.bool r):=by
 refine eN func193 rfl ntmps193 rfl w0 fun hF=>?_
 unfold pt at h
 refine sr<|lbx rfl fun b_1=>art 14 [0,0] rfl ?_
 refine ch h rfl ?_ ?_ <;> intro h
 ·refine atr 4 [1,0] rfl<|qc h (cj N · p0.N (-1000000000) 1000000000 ·) rfl rfl rfl fun x1 h=>la rfl ?_
  obtain ⟨b1,hb_1,h⟩:=bs h
  refine WL.cutN 4 [(14,.bool b1),(2,.bool false)] ?_ (fun K=>?_)
  rotate_left
  ·refine sp 10 hb_1 rfl (fun hb_1=>?_) fun hb_1=>?_
   ·refine arr 4 [2,0] rfl ?_
    cases hb_1
    exact ku K
   ·refine arr 4 [] rfl ?_
    cases hb_1
    exact ku K
  refine la rfl<|en ?_
  exact rt hF h
 refine att 5 [] rfl ?_
 refine ch h rfl ?_ ?_ <;> intro h
 ·refine atr 4 [2,0] rfl<|qc h (yG N · p0.S ·) rfl rfl rfl fun x2 h=>la rfl ?_
  obtain ⟨b2,hb_2,h⟩:=bs h
  refine WL.cutN 4 [(24,.bool b2),(2,.bool false)] ?_ (fun K=>?_)
  rotate_left
  ·refine sp 20 hb_2 rfl (fun hb_2=>?_) fun hb_2=>?_
   ·refine arr 4 [1,0] rfl ?_
    cases hb_2
    exact ku K
   ·refine arr 4 [] rfl ?_
    cases hb_2
    exact ku K
  refine la rfl<|en ?_
  exact rt hF h
 refine att 6 [] rfl ?_
 exact rt hF h
theorem Bn (w0:ab Ψ Φ []) (p0:(List aE)) (ph0:RSl av 3 Ψ pG0 pv0 p0) {r:Bool} (h:t8 N p0=some r) :
  CB w0 prog 159 [pv0] (.bool r):=by
 refine eN func159 rfl ntmps159 rfl w0 fun hF=>?_
 unfold t8 at h
 refine att 10 [] rfl ?_
 refine lin (σ:=Int) (fun s=>[(0,pv0),(3,iV s)]) (fun s=>St w0 Φ [] []) (fun m s=>eA N p0 m s=some r) (0) N h (sx [] []) (fun n1 ih1 s hm=>?_)
 revert hm; revert s; intro s1 hm
 have h:eA N p0 (n1+1) s1=some r:=hm
 show WT _ _ [(0,pv0),(3,iV s1)] (St w0 Φ [] [])
 unfold eA at h
 refine atr 5 [] rfl<|lnr ph0 rfl<|la rfl<|en ?_
 refine ch h rfl ?_ ?_ <;> intro h
 ·refine atr 7 [] rfl ?_
  obtain ⟨x1,hx1,h⟩:=bs h
  obtain ⟨cs1,F1,-,g1,hb1,hs1,r1⟩:=ph0.el (a7 hx1).2.2
  obtain ⟨rfl,-⟩:=r1
  refine lia ph0 hx1 rfl<|lhx 0 3 g1 rfl<|qc h (vE N · x1 ·) rfl rfl rfl fun x2 h=>la rfl<|en ?_
  refine ch h rfl ?_ ?_ <;> intro h
  ·refine att 4 [] rfl ?_
   exact rt hF h
  refine att 7 [] rfl ?_
  exact lb [] [] (ih1 _ h)
 refine atr 4 [] rfl<|lnr ph0 rfl<|art 3 [] rfl ?_
 exact rt hF h
theorem BW (w0:ab Ψ Φ []) (p0:aA) (ph0_0:RSl av 3 Ψ pG0_0 pv0_0 p0.Fields) {r:Bool} (h:qI N p0=some r) :
  CB w0 prog 110 [.agg [.string p0.Kind,pv0_0].toArray] (.bool r):=by
 refine eN func110 rfl ntmps110 rfl w0 fun hF=>?_
 unfold qI at h
 refine sr<|lbx rfl fun b_1=>arr 6 [0,0] rfl<|qc h (fO N · p0.Kind ·) rfl rfl rfl fun x1 h=>la rfl ?_
 obtain ⟨b1,hb_1,h⟩:=bs h
 refine WL.cutN 4 [(10,.bool b1),(2,.bool false)] ?_ (fun K=>?_)
 rotate_left
 ·refine sp 6 hb_1 rfl (fun hb_1=>?_) fun hb_1=>?_
  ·refine arr 2 [1,0] rfl<|ly rfl rfl<|qd hb_1 (Bn N · p0.Fields ph0_0 ·) rfl rfl rfl fun x2 hb_1=>la rfl ?_
   cases hb_1
   exact ku K
  ·refine arr 4 [] rfl ?_
   cases hb_1
   exact ku K
 refine la rfl<|en ?_
 exact rt hF h
theorem rE (w0:ab Ψ Φ []) (p0:(List aE)) (p1:(List aE)) (ph0:RSl av 3 Ψ pG0 pv0 p0) (ph1:RSl av 3 Ψ pG1 pv1 p1) {r:Bool} (h:gU N p0 p1=some r) :
  CB w0 prog 194 [pv0,pv1] (.bool r):=by
 refine eN func194 rfl ntmps194 rfl w0 fun hF=>?_
 unfold gU at h
 refine atr 8 [] rfl<|lnr ph0 rfl<|la rfl<|lnr ph1 rfl<|la rfl<|en ?_
 refine ch h rfl ?_ ?_ <;> intro h
 ·refine att 4 [] rfl ?_
  exact rt hF h
 refine att 7 [] rfl ?_
 refine lin (σ:=Int) (fun s=>[(0,pv0),(1,pv1),(5,iV s)]) (fun s=>St w0 Φ [] []) (fun m s=>dl N p0 p1 m s=some r) (0) N h (sx [] []) (fun n1 ih1 s hm=>?_)
 revert hm; revert s; intro s1 hm
 have h:dl N p0 p1 (n1+1) s1=some r:=hm
 show WT _ _ [(0,pv0),(1,pv1),(5,iV s1)] (St w0 Φ [] [])
 unfold dl at h
 refine atr 5 [] rfl<|lnr ph0 rfl<|la rfl<|en ?_
 refine ch h rfl ?_ ?_ <;> intro h
 ·refine att 4 [] rfl<|WT.draw d7 (by kernel_rfl) (fun _ h=>h.drew)<|aqq 2 [] rfl ?_
  obtain ⟨x1,hx1,h⟩:=bs h
  obtain ⟨cs1,F1,-,g1,hb1,hs1,r1⟩:=ph0.el (a7 hx1).2.2
  obtain ⟨rfl,-⟩:=r1
  refine qq (aa hU rfl rfl ph0 hx1) rfl<|qq (aw kT rfl (fun w1 hw=>(g1.of_eq 0 3 rfl rfl:rg _ _ _ [iV x1.K,iV x1.N,.string x1.S]).rangeAt hw.in0) rfl) rfl<|aqq 2 [] rfl ?_
  obtain ⟨x2,hx2,h⟩:=bs h
  obtain ⟨cs2,F2,-,g2,hb2,hs2,r2⟩:=ph1.el (a7 hx2).2.2
  obtain ⟨rfl,-⟩:=r2
  refine qq (aa hU rfl rfl ph1 hx2) rfl<|qq (aw kT rfl (fun w1 hw=>(g2.of_eq 0 3 rfl rfl:rg _ _ _ [iV x2.K,iV x2.N,.string x2.S]).rangeAt hw.in0) rfl) rfl<|qq (Cj p6 rfl rfl rfl (r:=bF x1 x2) rfl) rfl<|WQ.nil ?_
  refine ch h rfl ?_ ?_ <;> intro h
  ·refine att 4 [] rfl ?_
   exact rt hF h
  refine att 7 [] rfl ?_
  exact lb [] [] (ih1 _ h)
 refine att 5 [] rfl ?_
 exact rt hF h
theorem xV (w0:ab Ψ Φ []) (p0:aA) (p1:aA) (ph0_0:RSl av 3 Ψ pG0_0 pv0_0 p0.Fields) (ph1_0:RSl av 3 Ψ pG1_0 pv1_0 p1.Fields) {r:Bool} (h:lN N p0 p1=some r) :
  CB w0 prog 160 [.agg [.string p0.Kind,pv0_0].toArray,.agg [.string p1.Kind,pv1_0].toArray] (.bool r):=by
 refine eN func160 rfl ntmps160 rfl w0 fun hF=>?_
 unfold lN at h
 refine sr<|lbx rfl fun b_1=>lbx rfl fun b_2=>arr 10 [0,32,0,0] rfl ?_
 obtain ⟨b1,hb_1,h⟩:=bs h
 refine WL.cutN 6 [(16,.bool b1),(4,.bool false)] ?_ (fun K=>?_)
 rotate_left
 ·refine sp 10 hb_1 rfl (fun hb_1=>?_) fun hb_1=>?_
  ·refine arr 4 [1,32,1,0] rfl<|ly rfl rfl<|qd hb_1 (rE N · p0.Fields p1.Fields ph0_0 ph1_0 ·) rfl rfl rfl fun x1 hb_1=>la rfl ?_
   cases hb_1
   exact ku K
  ·refine arr 6 [] rfl ?_
   cases hb_1
   exact ku K
 refine la rfl<|en ?_
 exact rt hF h
theorem EW (w0:ab Ψ Φ []) (p0:ah) (p1:aA) (ph0_0:RSl bN 3 Ψ pG0_0 pv0_0 p0.Items) (ph1_0:RSl av 3 Ψ pG1_0 pv1_0 p1.Fields) {r:Int} (h:tG N p0 p1=some r) :
  CB w0 prog 111 [.agg [pv0_0,iV p0.Next].toArray,.agg [.string p1.Kind,pv1_0].toArray] (iV r):=by
 refine eN func111 rfl ntmps111 rfl w0 fun hF=>?_
 unfold tG at h
 refine sr<|lbx rfl fun b_1=>lbx rfl fun b_2=>art 8 [] rfl ?_
 refine lin (σ:=Int) (fun s=>[(2,pQ b_1),(3,pQ b_2),(5,iV s)]) (fun s=>St w0 Φ [(b_2,.cells #[.string p1.Kind,pv1_0] 133 (0,0)),(b_1,.cells #[pv0_0,iV p0.Next] 57 (0,0))] []) (fun m s=>ie N p0 p1 m s=some r) (0) N h (sx [] [0,0]) (fun n1 ih1 s hm=>?_)
 revert hm; revert s; intro s1 hm
 have h:ie N p0 p1 (n1+1) s1=some r:=hm
 show WT _ _ [(2,pQ b_1),(3,pQ b_2),(5,iV s1)] (St w0 Φ [(b_2,.cells #[.string p1.Kind,pv1_0] 133 (0,0)),(b_1,.cells #[pv0_0,iV p0.Next] 57 (0,0))] [])
 unfold ie at h
 refine atr 6 [0,32] rfl<|lnr ph0_0 rfl<|la rfl<|en ?_
 refine ch h rfl ?_ ?_ <;> intro h
 ·refine att 4 [] rfl<|WT.draw d7 (by kernel_rfl) (fun _ h=>h.drew)<|aqq 3 [0,32] rfl ?_
  obtain ⟨x1,hx1,h⟩:=bs h
  obtain ⟨cs1,F1,-,g1,hb1,hs1,r1⟩:=ph0_0.el (a7 hx1).2.2
  obtain ⟨v1,G1,rfl,hq1,h1⟩:=r1
  obtain rfl:=hq1.symm
  refine qq (aa zq rfl rfl ph0_0 hx1) rfl<|qq (aH wv rfl) rfl<|qq (aw rM rfl (fun w1 hw=>(g1.of_eq 1 2 rfl rfl:rg _ _ _ [.string x1.F.Kind,v1]).rangeAt hw.in0) rfl) rfl<|qq (aw rM rfl (fun w1 hw=>hw.rgO (i:=0) rfl 0 2 [.string p1.Kind,pv1_0] rfl) rfl) rfl ?_
  obtain ⟨x2,hx2,h⟩:=bs h
  refine qp (bM IN rfl (fun w1 hw=>xV N (ba hw.in0) x1.F p1 h1 ph1_0 hx2)) rfl<|WQ.nil ?_
  refine ch h rfl ?_ ?_ <;> intro h
  ·refine atr 5 [0,32] rfl ?_
   obtain ⟨x3,hx3,h⟩:=bs h
   obtain ⟨cs2,F2,-,g2,hb2,hs2,r2⟩:=ph0_0.el (a7 hx3).2.2
   obtain ⟨v2,G2,rfl,hq2,h2⟩:=r2
   obtain rfl:=hq2.symm
   refine lia ph0_0 hx3 rfl<|lf sJ rfl rfl rfl<|lhx 0 0 g2 rfl<|la rfl<|en ?_
   exact rt hF h
  refine att 7 [] rfl ?_
  exact lb [] [0,0] (ih1 _ h)
 refine att 5 [] rfl ?_
 exact rt hF h
theorem yV (w0:ab Ψ Φ []) (p0:ah) (ph0_0:RSl bN 3 Ψ pG0_0 pv0_0 p0.Items) {r:Bool} (h:oq N p0=some r) :
  CB w0 prog 63 [.agg [pv0_0,iV p0.Next].toArray] (.bool r):=by
 refine eN func63 rfl ntmps63 rfl w0 fun hF=>?_
 unfold oq at h
 refine sr<|lbx rfl fun b_1=>arr 7 [1,0] rfl<|qc h (cj N · p0.Next 1 1000000 ·) rfl rfl rfl fun x1 h=>arr 2 [] rfl ?_
 obtain ⟨b1,hb_1,h⟩:=bs h
 refine WL.cutN 5 [(14,.bool b1),(1,pQ b_1)] ?_ (fun K=>?_)
 rotate_left
 ·refine sp 9 hb_1 rfl (fun hb_1=>?_) fun hb_1=>?_
  ·refine arr 5 [] rfl ?_
   cases hb_1
   exact ku K
  ·refine arr 2 [0,0] rfl<|ly rfl rfl<|lnr ph0_0 rfl<|arr 2 [] rfl ?_
   cases hb_1
   exact ku K
 refine en ?_
 refine ch h rfl ?_ ?_ <;> intro h
 ·refine att 4 [] rfl ?_
  exact rt hF h
 refine att 7 [] rfl ?_
 refine lin (σ:=Int) (fun s=>[(1,pQ b_1),(3,iV s)]) (fun s=>St w0 Φ [(b_1,.cells #[pv0_0,iV p0.Next] 57 (0,0))] []) (fun m s=>fY N p0 m s=some r) (0) N h (sx [] [0]) (fun n1 ih1 s hm=>?_)
 revert hm; revert s; intro s1 hm
 have h:fY N p0 (n1+1) s1=some r:=hm
 show WT _ _ [(1,pQ b_1),(3,iV s1)] (St w0 Φ [(b_1,.cells #[pv0_0,iV p0.Next] 57 (0,0))] [])
 unfold fY at h
 refine atr 6 [0,0] rfl<|lnr ph0_0 rfl<|la rfl<|en ?_
 refine ch h rfl ?_ ?_ <;> intro h
 ·refine atr 8 [0,0] rfl ?_
  obtain ⟨x2,hx2,h⟩:=bs h
  obtain ⟨cs1,F1,-,g1,hb1,hs1,r1⟩:=ph0_0.el (a7 hx2).2.2
  obtain ⟨v1,G1,rfl,hq1,h1⟩:=r1
  obtain rfl:=hq1.symm
  refine lia ph0_0 hx2 rfl<|lhx 0 3 g1 rfl<|lnz vd rfl fun b_2=>soN 0 wS rfl ⟨rfl,rfl,h1.one,trivial⟩ rfl ?_
  refine en<|sq<|WT.draw d7 (by kernel_rfl) (fun _ h=>h.drew)<|aqq 2 [1,2] rfl ?_
  obtain ⟨x3,hx3,h⟩:=bs h
  refine qp (bM Js rfl (fun w1 hw=>BW N (ba hw.in0) x2.F h1 hx3)) rfl<|aqq 2 [] rfl ?_
  obtain ⟨b2,hb_2,h⟩:=bs h
  refine WQ.cutN 4 [(35,.bool b2),(1,pQ b_1),(3,iV s1),(4,pQ b_2)] ?_ (fun K=>?_)
  rotate_left
  ·refine WQ.split (d:=31) rfl (fun c4=>?_) (fun c4=>?_)
   ·replace hb_2:=jl hb_2 c4
    refine aqq 4 [] rfl ?_
    cases hb_2
    exact kq K
   ·replace hb_2:=jn hb_2 c4
    refine aqq 4 [0,0] rfl ?_
    cases hb_2
    exact kq K
  refine qq (jD rfl) rfl ?_
  obtain ⟨b3,hb_3,h⟩:=bs h
  refine WQ.cutN 6 [(42,.bool b3),(1,pQ b_1),(3,iV s1),(4,pQ b_2)] ?_ (fun K=>?_)
  rotate_left
  ·refine WQ.split (d:=36) rfl (fun c5=>?_) (fun c5=>?_)
   ·replace hb_3:=jl hb_3 c5
    refine aqq 6 [] rfl ?_
    cases hb_3
    exact kq K
   ·replace hb_3:=jn hb_3 c5
    refine aqq 6 [0,0,1,32] rfl ?_
    cases hb_3
    exact kq K
  refine qq (jD rfl) rfl ?_
  obtain ⟨b4,hb_4,h⟩:=bs h
  refine WQ.cutN 15 [(58,.bool b4),(1,pQ b_1),(3,iV s1),(4,pQ b_2)] ?_ (fun K=>?_)
  rotate_left
  ·refine WQ.split (d:=43) rfl (fun c6=>?_) (fun c6=>?_)
   ·replace hb_4:=jl hb_4 c6
    refine aqq 15 [] rfl ?_
    cases hb_4
    exact kq K
   ·replace hb_4:=jn hb_4 c6
    refine aqq 3 [] rfl ?_
    obtain ⟨b5,hb_5,hb_4⟩:=bs hb_4
    refine WQ.cutN 11 [(57,.bool b5),(1,pQ b_1),(3,iV s1),(4,pQ b_2),(43,.bool false)] ?_ (fun K=>?_)
    rotate_left
    ·refine WQ.split (d:=46) rfl (fun c7=>?_) (fun c7=>?_)
     ·replace hb_5:=jl hb_5 c7
      refine aqq 4 [0,32] rfl<|WQ.yes rfl rfl ?_
      obtain ⟨x4,hx4,hb_5⟩:=bs hb_5
      obtain ⟨cs2,F2,-,g2,hb2,hs2,r2⟩:=ph0_0.el (a7 hx4).2.2
      obtain ⟨v2,G2,rfl,hq2,h2⟩:=r2
      obtain rfl:=hq2.symm
      refine qq (aa zq rfl rfl ph0_0 hx4) rfl<|WQ.yes rfl rfl<|qq (aH sJ rfl) rfl<|WQ.yes rfl rfl<|qq (bk xI rfl (fun w1 hw=>(g2.of_eq 0 1 rfl rfl:rg _ _ _ [iV x4.Id]).rangeAt hw.in0)) rfl<|aqq 4 [0,0] rfl ?_
      cases hb_5
      exact kq K
     ·replace hb_5:=jn hb_5 c7
      refine aqq 11 [] rfl ?_
      cases hb_5
      exact kq K
    refine WQ.q (uf rfl rfl) rfl rfl rfl ?_
    cases hb_4
    exact kq K
  refine qq (jD rfl) rfl ?_
  obtain ⟨b6,hb_6,h⟩:=bs h
  refine WQ.cutN 8 [(67,.bool b6),(1,pQ b_1),(3,iV s1)] ?_ (fun K=>?_)
  rotate_left
  ·refine WQ.split (d:=59) rfl (fun c8=>?_) (fun c8=>?_)
   ·replace hb_6:=jl hb_6 c8
    refine aqq 8 [] rfl ?_
    cases hb_6
    exact kq K
   ·replace hb_6:=jn hb_6 c8
    refine aqq 3 [34,1,2] rfl<|WQ.yes rfl rfl ?_
    obtain ⟨x5,hx5,hb_6⟩:=bs hb_6
    refine qp (bM IT rfl (fun w1 hw=>EW N (ba hw.in0) p0 x2.F ph0_0 h1 hx5)) rfl<|aqq 4 [0,0] rfl ?_
    cases hb_6
    exact kq K
  refine WQ.nil ?_
  refine ch h rfl ?_ ?_ <;> intro h
  ·refine att 4 [] rfl ?_
   exact rt hF h
  refine att 7 [] rfl ?_
  exact lb [] [1] (ih1 _ h)
 refine att 5 [] rfl ?_
 exact rt hF h
theorem sU (w0:ab Ψ Φ []) (p0:(List ByteArray)) (p1:ByteArray) (ph0:RSl RS 1 Ψ pG0 pv0 p0) {r:Bool} (h:mW N p0 p1=some r) :
  CB w0 prog 225 [pv0,.string p1] (.bool r):=by
 refine eN func225 rfl ntmps225 rfl w0 fun hF=>?_
 unfold mW at h
 refine att 10 [] rfl ?_
 refine lin (σ:=Int) (fun s=>[(0,pv0),(1,.string p1),(5,iV s)]) (fun s=>St w0 Φ [] []) (fun m s=>iA N p0 p1 m s=some r) (0) N h (sx [] []) (fun n1 ih1 s hm=>?_)
 revert hm; revert s; intro s1 hm
 have h:iA N p0 p1 (n1+1) s1=some r:=hm
 show WT _ _ [(0,pv0),(1,.string p1),(5,iV s1)] (St w0 Φ [] [])
 unfold iA at h
 refine atr 5 [] rfl<|lnr ph0 rfl<|la rfl<|en ?_
 refine ch h rfl ?_ ?_ <;> intro h
 ·refine atr 7 [] rfl ?_
  obtain ⟨x1,hx1,h⟩:=bs h
  obtain ⟨cs1,F1,-,g1,hb1,hs1,r1⟩:=ph0.el (a7 hx1).2.2
  obtain ⟨rfl,-⟩:=r1
  refine lia ph0 hx1 rfl<|lhx 0 0 g1 rfl<|art 3 [] rfl ?_
  refine ch h rfl ?_ ?_ <;> intro h
  ·refine att 4 [] rfl ?_
   exact rt hF h
  refine att 7 [] rfl ?_
  exact lb [] [] (ih1 _ h)
 refine att 5 [] rfl ?_
 exact rt hF h
theorem Am (w0:ab Ψ Φ []) (p0:ax) (ph0_0:RSl bO 5 Ψ pG0_0 pv0_0 p0.Args) {r:(List ByteArray)} (h:pW N p0=some r) :
  Calls prog 224 [.agg [.string p0.Kind,pv0_0,.bool p0.Not].toArray].toArray w0.w (aL Φ w0.w [] (fun Φ' Fs v=>∃ (sr_0_0:Value),v=sr_0_0∧Fs=[ob sr_0_0]∧OSl RS 9 1 Φ' [] sr_0_0 r)):=by
 refine eN func224 rfl ntmps224 rfl w0 fun hF=>?_
 unfold pW at h
 refine sr<|lbx rfl fun b_1=>arr 4 [] rfl<|le' (ju RS.lasts tX Iz rfl rfl) rfl ?_
 rintro v1 Φ_1 D1 ⟨fr1,h1⟩
 refine art 8 [] rfl ?_
 refine lin (σ:=Hp × (List ByteArray) × Value × Int) (fun s=>[(1,pQ b_1),(3,s.2.2.1),(4,iV s.2.2.2)]) (fun s=>St w0 s.1 [(b_1,.cells #[.string p0.Kind,pv0_0,.bool p0.Not] 214 (0,0))] [ob s.2.2.1]) (fun m s=>fN N p0 m s.2.1 s.2.2.2=some r∧(OSl RS 9 1 s.1 [] s.2.2.1 s.2.1)) (Φ_1,([]:List ByteArray),v1,0) N ⟨h,h1⟩ (sx [0] [0]) (fun n1 ih1 s hm=>?_)
 obtain ⟨Φ_2,s1,u1,s2⟩:=s
 obtain ⟨h,k1⟩:=hm
 dsimp only at h k1 ⊢
 unfold fN at h
 refine atr 6 [1,0] rfl<|lnr ph0_0 rfl<|la rfl<|en ?_
 refine ch h rfl ?_ ?_ <;> intro h
 ·refine atr 8 [1,0] rfl ?_
  obtain ⟨x1,hx1,h⟩:=bs h
  obtain ⟨cs1,F1,-,g1,hb1,hs1,r1⟩:=ph0_0.el (a7 hx1).2.2
  obtain ⟨rfl,-⟩:=r1
  refine lia ph0_0 hx1 rfl<|lf wn rfl rfl rfl<|lhx 0 0 g1 rfl<|arr 2 [] rfl ?_
  obtain ⟨b1,hb_1,h⟩:=bs h
  refine WL.cutN 10 [(30,.bool b1),(1,pQ b_1),(3,u1),(4,iV s2)] ?_ (fun K=>?_)
  rotate_left
  ·refine sp 20 hb_1 rfl (fun hb_1=>?_) fun hb_1=>?_
   ·refine arr 4 [1,0] rfl<|ly rfl rfl ?_
    obtain ⟨x2,hx2,hb_1⟩:=bs hb_1
    obtain ⟨cs2,F2,-,g2,hb2,hs2,r2⟩:=ph0_0.el (a7 hx2).2.2
    obtain ⟨rfl,-⟩:=r2
    refine lia ph0_0 hx2 rfl<|ly rfl rfl<|lf wI rfl rfl rfl<|ly rfl rfl<|lhx 1 0 g2 rfl<|ly rfl rfl<|qc hb_1 (sU N · s1 x2.S k1.rsl ·) rfl rfl rfl fun x3 hb_1=>arr 2 [] rfl ?_
    cases hb_1
    exact ku K
   ·refine arr 10 [] rfl ?_
    cases hb_1
    exact ku K
  refine en ?_
  refine ch h rfl ?_ ?_ <;> intro h
  ·refine atr 5 [1,0] rfl ?_
   obtain ⟨x4,hx4,h⟩:=bs h
   obtain ⟨cs3,F3,-,g3,hb3,hs3,r3⟩:=ph0_0.el (a7 hx4).2.2
   obtain ⟨rfl,-⟩:=r3
   refine lia ph0_0 hx4 rfl<|lf wI rfl rfl rfl<|lhx 1 0 g3 rfl ?_
   have rc2:RC RS 1 Φ_2 ([[]]:List (List Nat)) [.string x4.S] ([x4.S]:List ByteArray):=RC.cons (c:=[.string x4.S]) (cells:=[]) ⟨rfl,rfl⟩ rfl (RC.nil _ _ _)
   refine le' (ed (vs:=[(0,.string x4.S)]) (C:=#[.string x4.S]) RS.lasts tX Iz rfl rfl rfl rfl (aV FV (ag (C':=[.string x4.S]) rfl rfl rfl rfl rfl (aq))) rfl rc2 rfl (by simpa using Kw.nil)) rfl ?_
   rintro v2 Φ_3 D2 ⟨fr2,h2⟩
   replace h2:OSl RS 9 1 Φ_3 [] v2 ([x4.S]:List ByteArray):=by simpa using h2
   replace k1:=k1.f0 fr2
   obtain ⟨x5,hx5,h⟩:=bs h
   refine le' (dV RS.lasts RS.one RS.flat tX Ln rfl rfl rfl rfl rfl (js:=[1]) (Rr:=[ob v2]) rfl k1 h2.rsl hx5) rfl ?_
   rintro v3 Φ_4 D3 ⟨⟨ap1,fr3⟩,h3⟩
   refine art 8 [] rfl ?_
   exact lb [0] [0] (ih1 (_,_,_,_) ⟨h,h3⟩)
  refine att 7 [] rfl ?_
  exact lb [0] [0] (ih1 (_,_,_,_) ⟨h,k1⟩)
 refine att 6 [] rfl ?_
 exact rtg [0] hF (ao.one rfl) rfl (by cases h; exact fun w1 hw=>⟨u1,rfl,rfl,k1⟩)
theorem yt (w0:ab Ψ Φ []) (p0:af) (ph0_0:RSl bR 3 Ψ pG0_0 pv0_0 p0.Pats) (ph0_1:RSl aZ 11 Ψ pG0_1 pv0_1 p0.Conds) (ph0_2:RSl dZ 5 Ψ pG0_2 pv0_2 p0.Acts) {r:(List ByteArray)} (h:lF N p0=some r) :
  Calls prog 195 [.agg [.string p0.Name,iV p0.Sal,pv0_0,pv0_1,pv0_2].toArray].toArray w0.w (aL Φ w0.w [] (fun Φ' Fs v=>∃ (sr_0_0:Value),v=sr_0_0∧Fs=[ob sr_0_0]∧OSl RS 9 1 Φ' [] sr_0_0 r)):=by
 refine eN func195 rfl ntmps195 rfl w0 fun hF=>?_
 unfold lF at h
 refine sr<|lbx rfl fun b_1=>arr 4 [] rfl<|le' (ju RS.lasts tX Iz rfl rfl) rfl ?_
 rintro v1 Φ_1 D1 ⟨fr1,h1⟩
 refine art 8 [] rfl ?_
 refine lin (σ:=Hp × (List ByteArray) × Value × Int) (fun s=>[(1,pQ b_1),(3,s.2.2.1),(4,iV s.2.2.2)]) (fun s=>St w0 s.1 [(b_1,.cells #[.string p0.Name,iV p0.Sal,pv0_0,pv0_1,pv0_2] 145 (0,0))] [ob s.2.2.1]) (fun m s=>cq N p0 m s.2.1 s.2.2.2=some r∧(OSl RS 9 1 s.1 [] s.2.2.1 s.2.1)) (Φ_1,([]:List ByteArray),v1,0) N ⟨h,h1⟩ (sx [0] [0]) (fun n1 ih1 s hm=>?_)
 obtain ⟨Φ_2,s1,u1,s2⟩:=s
 obtain ⟨h,k1⟩:=hm
 dsimp only at h k1 ⊢
 unfold cq at h
 refine atr 6 [2,0] rfl<|lnr ph0_0 rfl<|la rfl<|en ?_
 refine ch h rfl ?_ ?_ <;> intro h
 ·refine atr 8 [2,0] rfl ?_
  obtain ⟨x1,hx1,h⟩:=bs h
  obtain ⟨cs1,F1,-,g1,hb1,hs1,r1⟩:=ph0_0.el (a7 hx1).2.2
  obtain ⟨v2,G1,rfl,hq1,h2⟩:=r1
  obtain rfl:=hq1.symm
  refine lia ph0_0 hx1 rfl<|lhx 0 3 g1 rfl<|kab h rfl rfl rfl (fun b z q=>Am N b x1 (h2.y z) q) ?_
  rintro x2 h v3 Φ_3 F2 ⟨ap1,fr2,v4,rfl,rfl,h3⟩
  replace k1:=k1.fr fr2 (ap1.q 0 rfl) dN
  refine art 7 [] rfl ?_
  refine lin (σ:=Hp × (List ByteArray) × Value × Int) (fun s=>[(1,pQ b_1),(3,s.2.2.1),(4,iV s2),(5,v3),(6,iV s.2.2.2)]) (fun s=>St w0 s.1 [(b_1,.cells #[.string p0.Name,iV p0.Sal,pv0_0,pv0_1,pv0_2] 145 (0,0))] [ob v3,ob s.2.2.1]) (fun m s=>cp N p0 s2 (cq N p0 n1) x2 m s.2.1 s.2.2.2=some r∧(OSl RS 9 1 s.1 [] s.2.2.1 s.2.1)∧(OSl RS 9 1 s.1 [] v3 x2)) (Φ_3,s1,u1,0) N ⟨h,k1,h3⟩ (sx [0,0] [0]) (fun n2 ih2 s hm=>?_)
  obtain ⟨Φ_4,s3,u2,s4⟩:=s
  obtain ⟨h,k2,h3⟩:=hm
  dsimp only at h k2 h3 ⊢
  unfold cp at h
  refine atr 5 [] rfl<|lno h3 rfl<|arr 2 [] rfl ?_
  obtain ⟨b1,hb_1,h⟩:=bs h
  refine WL.cutN 8 [(33,.bool b1),(1,pQ b_1),(3,u2),(4,iV s2),(5,v3),(6,iV s4)] ?_ (fun K=>?_)
  rotate_left
  ·refine sp 25 hb_1 rfl (fun hb_1=>?_) fun hb_1=>?_
   ·refine arr 3 [2,0] rfl<|ly rfl rfl ?_
    obtain ⟨x3,hx3,hb_1⟩:=bs hb_1
    obtain ⟨cs2,F3,-,g2,hb2,hs2,r2⟩:=ph0_0.el (a7 hx3).2.2
    obtain ⟨v5,G2,rfl,hq2,h4⟩:=r2
    obtain rfl:=hq2.symm
    refine lia ph0_0 hx3 rfl<|ly rfl rfl<|lf lr rfl rfl rfl<|ly rfl rfl<|lhx 2 0 g2 rfl<|arr 2 [] rfl ?_
    cases hb_1
    exact ku K
   ·refine arr 8 [] rfl ?_
    cases hb_1
    exact ku K
  refine en ?_
  refine ch h rfl ?_ ?_ <;> intro h
  ·refine atr 8 [] rfl ?_
   obtain ⟨x4,hx4,h⟩:=bs h
   obtain ⟨cs3,F4,-,g3,hb3,hs3,r3⟩:=h3.elS (a7 hx4).2.2
   obtain ⟨rfl,-⟩:=r3
   refine lio h3 hx4 rfl<|lgx 0 0 g3 rfl<|qc h (sU N · s3 x4 k2.rsl ·) rfl rfl rfl fun x5 h=>la rfl<|en ?_
   refine ch h rfl ?_ ?_ <;> intro h
   ·refine atr 4 [] rfl ?_
    obtain ⟨x6,hx6,h⟩:=bs h
    obtain ⟨cs4,F5,-,g4,hb4,hs4,r4⟩:=h3.elS (a7 hx6).2.2
    obtain ⟨rfl,-⟩:=r4
    refine lio h3 hx6 rfl<|lgx 0 0 g4 rfl ?_
    have rc2:RC RS 1 Φ_4 ([[]]:List (List Nat)) [.string x6] ([x6]:List ByteArray):=RC.cons (c:=[.string x6]) (cells:=[]) ⟨rfl,rfl⟩ rfl (RC.nil _ _ _)
    refine le' (ed (vs:=[(0,.string x6)]) (C:=#[.string x6]) RS.lasts tX Iz rfl rfl rfl rfl (aV FV (ag (C':=[.string x6]) rfl rfl rfl rfl rfl (aq))) rfl rc2 rfl (by simpa using Kw.nil)) rfl ?_
    rintro v6 Φ_5 D2 ⟨fr3,h5⟩
    replace h5:OSl RS 9 1 Φ_5 [] v6 ([x6]:List ByteArray):=by simpa using h5
    replace k2:=k2.f0 fr3
    replace h3:=h3.f0 fr3
    obtain ⟨x7,hx7,h⟩:=bs h
    refine le' (dV RS.lasts RS.one RS.flat tX Ln rfl rfl rfl rfl rfl (js:=[2]) (Rr:=[ob v6,ob v3]) rfl k2 h5.rsl hx7) rfl ?_
    rintro v7 Φ_6 D3 ⟨⟨ap2,fr4⟩,h6⟩
    replace h3:=h3.fr fr4 (ap2.q 1 rfl) dN
    refine art 8 [] rfl ?_
    exact lb [2,0] [0] (ih2 (_,_,_,_) ⟨h,h6,h3⟩)
   refine att 7 [] rfl ?_
   exact lb [0,0] [0] (ih2 (_,_,_,_) ⟨h,k2,h3⟩)
  refine att 7 [] rfl ?_
  exact lb [1] [0] (ih1 (_,_,_,_) ⟨h,k2⟩)
 refine att 6 [] rfl ?_
 exact rtg [0] hF (ao.one rfl) rfl (by cases h; exact fun w1 hw=>⟨u1,rfl,rfl,k1⟩)
theorem yY  (w0:ab Ψ Φ []) (p0:Int)  {r:Bool} (h:o3 N p0=some r) :
  CB w0 prog 250 [.int .u8 p0] (.bool r):=by
 refine eN func250 rfl ntmps250 rfl w0 fun hF=>?_
 unfold o3 at h
 refine atr 7 [] rfl<|lq (vv Ho Ix rfl) rfl<|qc h (cj N · (wz p0) 65 90 ·) rfl rfl rfl fun x1 h=>la rfl<|en ?_
 exact rt hF h
theorem zK  (w0:ab Ψ Φ []) (p0:ByteArray)  {r:Bool} (h:ol N p0=some r) :
  CB w0 prog 247 [.string p0] (.bool r):=by
 refine eN func247 rfl ntmps247 rfl w0 fun hF=>?_
 unfold ol at h
 refine att 10 [] rfl ?_
 refine lin (σ:=Int) (fun s=>[(0,.string p0),(3,iV s)]) (fun s=>St w0 Φ [] []) (fun m s=>cT N p0 m s=some r) (0) N h (sx [] []) (fun n1 ih1 s hm=>?_)
 revert hm; revert s; intro s1 hm
 have h:cT N p0 (n1+1) s1=some r:=hm
 show WT _ _ [(0,.string p0),(3,iV s1)] (St w0 Φ [] [])
 unfold cT at h
 refine atr 5 [] rfl<|lq (gj fw rfl rfl) rfl<|la rfl<|en ?_
 refine ch h rfl ?_ ?_ <;> intro h
 ·refine atr 7 [] rfl ?_
  obtain ⟨y1,hy1,h⟩:=bs h
  refine lq (kx fw rfl rfl hy1) rfl<|qc h (yY N · (y1.toNat:Int) ·) rfl rfl rfl fun x1 h=>arr 2 [] rfl ?_
  obtain ⟨b1,hb_1,h⟩:=bs h
  refine WL.cutN 10 [(25,.bool b1),(0,.string p0),(3,iV s1)] ?_ (fun K=>?_)
  rotate_left
  ·refine sp 15 hb_1 rfl (fun hb_1=>?_) fun hb_1=>?_
   ·refine arr 3 [] rfl ?_
    obtain ⟨b2,hb_2,hb_1⟩:=bs hb_1
    refine WL.cutN 6 [(24,.bool b2),(0,.string p0),(3,iV s1),(15,.bool true)] ?_ (fun K=>?_)
    rotate_left
    ·refine sp 18 hb_2 rfl (fun hb_2=>?_) fun hb_2=>?_
     ·refine arr 6 [] rfl ?_
      cases hb_2
      exact ku K
     ·refine arr 2 [] rfl<|ly rfl rfl ?_
      obtain ⟨y2,hy2,hb_2⟩:=bs hb_2
      refine lq (kx fw rfl rfl hy2) rfl<|ly rfl rfl<|qc hb_2 (oN N · (y2.toNat:Int) ·) rfl rfl rfl fun x2 hb_2=>arr 2 [] rfl ?_
      cases hb_2
      exact ku K
    refine la rfl ?_
    cases hb_1
    exact ku K
   ·refine arr 10 [] rfl ?_
    cases hb_1
    exact ku K
  refine en ?_
  refine ch h rfl ?_ ?_ <;> intro h
  ·refine att 4 [] rfl ?_
   exact rt hF h
  refine att 7 [] rfl ?_
  exact lb [] [] (ih1 _ h)
 refine atr 4 [] rfl<|lq (gj fw rfl rfl) rfl<|qc h (cj N · (p0.size:Int) 1 12 ·) rfl rfl rfl fun x3 h=>la rfl<|en ?_
 exact rt hF h
theorem pg  (w0:ab Ψ Φ []) (p0:aW)  {r:Bool} (h:lx N p0=some r) :
  CB w0 prog 241 [.agg [iV p0.K,.string p0.S,iV p0.V.K,iV p0.V.N,.string p0.V.S].toArray] (.bool r):=by
 refine eN func241 rfl ntmps241 rfl w0 fun hF=>?_
 unfold lx at h
 refine sr<|lbx rfl fun b_1=>arr 6 [2,3] rfl<|lq (cG (vs:=[]) (C:=#[iV 0,iV 0,.string (⟨#[]⟩:ByteArray)]) Ad jk rfl (aq)) rfl<|lq (Ff p6 rfl rfl rfl (r:=bF p0.V (⟨0,0,(⟨#[]⟩:ByteArray)⟩:aE)) rfl) rfl<|art 14 [0,0] rfl ?_
 refine ch h rfl ?_ ?_ <;> intro h
 ·refine atr 4 [1,0] rfl<|qc h (zK N · p0.S ·) rfl rfl rfl fun x1 h=>la rfl ?_
  obtain ⟨b1,hb_1,h⟩:=bs h
  refine WL.cutN 2 [(17,.bool b1),(2,.bool false)] ?_ (fun K=>?_)
  rotate_left
  ·refine sp 15 hb_1 rfl (fun hb_1=>?_) fun hb_1=>?_
   ·refine arr 2 [] rfl ?_
    cases hb_1
    exact ku K
   ·refine arr 2 [] rfl ?_
    cases hb_1
    exact ku K
  refine la rfl<|en ?_
  exact rt hF h
 refine att 5 [] rfl ?_
 refine ch h rfl ?_ ?_ <;> intro h
 ·refine atr 4 [2,3] rfl<|qc h (vE N · p0.V ·) rfl rfl rfl fun x2 h=>la rfl ?_
  obtain ⟨b2,hb_2,h⟩:=bs h
  refine WL.cutN 4 [(27,.bool b2),(2,.bool false)] ?_ (fun K=>?_)
  rotate_left
  ·refine sp 23 hb_2 rfl (fun hb_2=>?_) fun hb_2=>?_
   ·refine arr 4 [1,0] rfl ?_
    cases hb_2
    exact ku K
   ·refine arr 4 [] rfl ?_
    cases hb_2
    exact ku K
  refine la rfl<|en ?_
  exact rt hF h
 refine att 5 [] rfl ?_
 refine ch h rfl ?_ ?_ <;> intro h
 ·refine atr 6 [1,0] rfl ?_
  obtain ⟨b3,hb_3,h⟩:=bs h
  refine WL.cutN 2 [(35,.bool b3),(2,.bool false)] ?_ (fun K=>?_)
  rotate_left
  ·refine sp 33 hb_3 rfl (fun hb_3=>?_) fun hb_3=>?_
   ·refine arr 2 [] rfl ?_
    cases hb_3
    exact ku K
   ·refine arr 2 [] rfl ?_
    cases hb_3
    exact ku K
  refine la rfl<|en ?_
  exact rt hF h
 refine att 6 [] rfl ?_
 exact rt hF h
theorem E0 (w0:ab Ψ Φ []) (p0:ax) (ph0_0:RSl bO 5 Ψ pG0_0 pv0_0 p0.Args) {r:Bool} (h:sg N p0=some r) :
  CB w0 prog 226 [.agg [.string p0.Kind,pv0_0,.bool p0.Not].toArray] (.bool r):=by
 refine eN func226 rfl ntmps226 rfl w0 fun hF=>?_
 unfold sg at h
 refine sr<|lbx rfl fun b_1=>art 8 [] rfl ?_
 refine lin (σ:=Int) (fun s=>[(1,pQ b_1),(3,iV s)]) (fun s=>St w0 Φ [(b_1,.cells #[.string p0.Kind,pv0_0,.bool p0.Not] 214 (0,0))] []) (fun m s=>gB N p0 m s=some r) (0) N h (sx [] [0]) (fun n1 ih1 s hm=>?_)
 revert hm; revert s; intro s1 hm
 have h:gB N p0 (n1+1) s1=some r:=hm
 show WT _ _ [(1,pQ b_1),(3,iV s1)] (St w0 Φ [(b_1,.cells #[.string p0.Kind,pv0_0,.bool p0.Not] 214 (0,0))] [])
 unfold gB at h
 refine atr 6 [1,0] rfl<|lnr ph0_0 rfl<|la rfl<|en ?_
 refine ch h rfl ?_ ?_ <;> intro h
 ·refine atr 8 [1,0] rfl ?_
  obtain ⟨x1,hx1,h⟩:=bs h
  obtain ⟨cs1,F1,-,g1,hb1,hs1,r1⟩:=ph0_0.el (a7 hx1).2.2
  obtain ⟨rfl,-⟩:=r1
  refine lia ph0_0 hx1 rfl<|lhx 0 5 g1 rfl<|qc h (pg N · x1 ·) rfl rfl rfl fun x2 h=>la rfl<|en ?_
  refine ch h rfl ?_ ?_ <;> intro h
  ·refine att 4 [] rfl ?_
   exact rt hF h
  refine att 7 [] rfl ?_
  exact lb [] [0] (ih1 _ h)
 refine atr 5 [0,0] rfl<|qc h (fO N · p0.Kind ·) rfl rfl rfl fun x3 h=>la rfl ?_
 obtain ⟨b1,hb_1,h⟩:=bs h
 refine WL.cutN 5 [(26,.bool b1)] ?_ (fun K=>?_)
 rotate_left
 ·refine sp 21 hb_1 rfl (fun hb_1=>?_) fun hb_1=>?_
  ·refine arr 2 [1,0] rfl<|ly rfl rfl<|lnr ph0_0 rfl<|arr 2 [] rfl ?_
   cases hb_1
   exact ku K
  ·refine arr 5 [] rfl ?_
   cases hb_1
   exact ku K
 refine la rfl<|en ?_
 exact rt hF h
theorem AP (w0:ab Ψ Φ []) (p0:(List ax)) (ph0:RSl bR 3 Ψ pG0 pv0 p0) {r:Bool} (h:qy N p0=some r) :
  CB w0 prog 196 [pv0] (.bool r):=by
 refine eN func196 rfl ntmps196 rfl w0 fun hF=>?_
 unfold qy at h
 refine att 10 [] rfl ?_
 refine lin (σ:=Int) (fun s=>[(0,pv0),(3,iV s)]) (fun s=>St w0 Φ [] []) (fun m s=>ev N p0 m s=some r) (0) N h (sx [] []) (fun n1 ih1 s hm=>?_)
 revert hm; revert s; intro s1 hm
 have h:ev N p0 (n1+1) s1=some r:=hm
 show WT _ _ [(0,pv0),(3,iV s1)] (St w0 Φ [] [])
 unfold ev at h
 refine atr 5 [] rfl<|lnr ph0 rfl<|la rfl<|en ?_
 refine ch h rfl ?_ ?_ <;> intro h
 ·refine atr 9 [] rfl ?_
  obtain ⟨b1,hb_1,h⟩:=bs h
  refine WL.cutN 7 [(19,.bool b1),(0,pv0),(3,iV s1)] ?_ (fun K=>?_)
  rotate_left
  ·refine sp 12 hb_1 rfl (fun hb_1=>?_) fun hb_1=>?_
   ·refine arr 2 [] rfl<|ly rfl rfl ?_
    obtain ⟨x1,hx1,hb_1⟩:=bs hb_1
    obtain ⟨cs1,F1,-,g1,hb1,hs1,r1⟩:=ph0.el (a7 hx1).2.2
    obtain ⟨v1,G1,rfl,hq1,h1⟩:=r1
    obtain rfl:=hq1.symm
    refine lia ph0 hx1 rfl<|ly rfl rfl<|lf lr rfl rfl rfl<|ly rfl rfl<|lhx 2 0 g1 rfl<|arr 2 [] rfl ?_
    cases hb_1
    exact ku K
   ·refine arr 7 [] rfl ?_
    cases hb_1
    exact ku K
  refine en ?_
  refine ch h rfl ?_ ?_ <;> intro h
  ·refine att 4 [] rfl ?_
   exact rt hF h
  refine atr 5 [] rfl ?_
  obtain ⟨x2,hx2,h⟩:=bs h
  obtain ⟨cs2,F2,-,g2,hb2,hs2,r2⟩:=ph0.el (a7 hx2).2.2
  obtain ⟨v2,G2,rfl,hq2,h2⟩:=r2
  obtain rfl:=hq2.symm
  refine lia ph0 hx2 rfl<|lhx 0 3 g2 rfl<|qd h (E0 N · x2 h2 ·) rfl rfl rfl fun x3 h=>arr 2 [] rfl ?_
  obtain ⟨b2,hb_2,h⟩:=bs h
  refine WL.cutN 10 [(36,.bool b2),(0,pv0),(3,iV s1)] ?_ (fun K=>?_)
  rotate_left
  ·refine sp 26 hb_2 rfl (fun hb_2=>?_) fun hb_2=>?_
   ·refine arr 10 [] rfl ?_
    cases hb_2
    exact ku K
   ·refine arr 3 [] rfl ?_
    obtain ⟨b3,hb_3,hb_2⟩:=bs hb_2
    refine WL.cutN 6 [(35,.bool b3),(0,pv0),(3,iV s1),(26,.bool false)] ?_ (fun K=>?_)
    rotate_left
    ·refine sp 29 hb_3 rfl (fun hb_3=>?_) fun hb_3=>?_
     ·refine arr 2 [] rfl<|ly rfl rfl ?_
      obtain ⟨x4,hx4,hb_3⟩:=bs hb_3
      obtain ⟨cs3,F3,-,g3,hb3,hs3,r3⟩:=ph0.el (a7 hx4).2.2
      obtain ⟨v3,G3,rfl,hq3,h3⟩:=r3
      obtain rfl:=hq3.symm
      refine lia ph0 hx4 rfl<|ly rfl rfl<|lf lr rfl rfl rfl<|ly rfl rfl<|lhx 2 0 g3 rfl<|ly rfl rfl<|la rfl ?_
      cases hb_3
      exact ku K
     ·refine arr 6 [] rfl ?_
      cases hb_3
      exact ku K
    refine la rfl ?_
    cases hb_2
    exact ku K
  refine la rfl ?_
  obtain ⟨b4,hb_4,h⟩:=bs h
  refine WL.cutN 19 [(56,.bool b4),(0,pv0),(3,iV s1)] ?_ (fun K=>?_)
  rotate_left
  ·refine sp 37 hb_4 rfl (fun hb_4=>?_) fun hb_4=>?_
   ·refine arr 19 [] rfl ?_
    cases hb_4
    exact ku K
   ·refine arr 3 [] rfl ?_
    obtain ⟨b5,hb_5,hb_4⟩:=bs hb_4
    refine WL.cutN 7 [(47,.bool b5),(0,pv0),(3,iV s1),(37,.bool false)] ?_ (fun K=>?_)
    rotate_left
    ·refine sp 40 hb_5 rfl (fun hb_5=>?_) fun hb_5=>?_
     ·refine arr 3 [] rfl<|ly rfl rfl ?_
      obtain ⟨x5,hx5,hb_5⟩:=bs hb_5
      obtain ⟨cs4,F4,-,g4,hb4,hs4,r4⟩:=ph0.el (a7 hx5).2.2
      obtain ⟨v4,G4,rfl,hq4,h4⟩:=r4
      obtain rfl:=hq4.symm
      refine lia ph0 hx5 rfl<|ly rfl rfl<|lf lr rfl rfl rfl<|ly rfl rfl<|lhx 2 0 g4 rfl<|ly rfl rfl<|la rfl ?_
      cases hb_5
      exact ku K
     ·refine arr 7 [] rfl ?_
      cases hb_5
      exact ku K
    refine ly rfl rfl<|la rfl ?_
    obtain ⟨b6,hb_6,hb_4⟩:=bs hb_4
    refine WL.cutN 7 [(55,.bool b6),(0,pv0),(3,iV s1),(37,.bool false)] ?_ (fun K=>?_)
    rotate_left
    ·refine sp 48 hb_6 rfl (fun hb_6=>?_) fun hb_6=>?_
     ·refine arr 2 [] rfl<|ly rfl rfl ?_
      obtain ⟨x6,hx6,hb_6⟩:=bs hb_6
      obtain ⟨cs5,F5,-,g5,hb5,hs5,r5⟩:=ph0.el (a7 hx6).2.2
      obtain ⟨v5,G5,rfl,hq5,h5⟩:=r5
      obtain rfl:=hq5.symm
      refine lia ph0 hx6 rfl<|ly rfl rfl<|lf lr rfl rfl rfl<|ly rfl rfl<|lhx 2 0 g5 rfl<|arr 2 [] rfl ?_
      cases hb_6
      exact ku K
     ·refine arr 7 [] rfl ?_
      cases hb_6
      exact ku K
    refine la rfl ?_
    cases hb_4
    exact ku K
  refine en ?_
  refine ch h rfl ?_ ?_ <;> intro h
  ·refine att 4 [] rfl ?_
   exact rt hF h
  refine att 7 [] rfl ?_
  exact lb [] [] (ih1 _ h)
 refine atr 4 [] rfl<|lnr ph0 rfl<|qc h (cj N · (p0.length:Int) 1 6 ·) rfl rfl rfl fun x7 h=>la rfl<|en ?_
 exact rt hF h
theorem BK  (w0:ab Ψ Φ []) (p0:bj)  {r:Bool} (h:qm N p0=some r) :
  CB w0 prog 227 [.agg [iV p0.Op,iV p0.L.K,.string p0.L.S,iV p0.L.V.K,iV p0.L.V.N,.string p0.L.V.S,iV p0.R.K,.string p0.R.S,iV p0.R.V.K,iV p0.R.V.N,.string p0.R.V.S].toArray] (.bool r):=by
 refine eN func227 rfl ntmps227 rfl w0 fun hF=>?_
 unfold qm at h
 refine sr<|lbx rfl fun b_1=>arr 6 [0,0] rfl<|qc h (cj N · p0.Op 1 3 ·) rfl rfl rfl fun x1 h=>la rfl ?_
 obtain ⟨b1,hb_1,h⟩:=bs h
 refine WL.cutN 4 [(10,.bool b1),(1,pQ b_1),(2,.bool false)] ?_ (fun K=>?_)
 rotate_left
 ·refine sp 6 hb_1 rfl (fun hb_1=>?_) fun hb_1=>?_
  ·refine arr 2 [1,5] rfl<|ly rfl rfl<|qc hb_1 (pg N · p0.L ·) rfl rfl rfl fun x2 hb_1=>la rfl ?_
   cases hb_1
   exact ku K
  ·refine arr 4 [] rfl ?_
   cases hb_1
   exact ku K
 refine la rfl ?_
 obtain ⟨b2,hb_2,h⟩:=bs h
 refine WL.cutN 4 [(15,.bool b2),(1,pQ b_1),(2,.bool false)] ?_ (fun K=>?_)
 rotate_left
 ·refine sp 11 hb_2 rfl (fun hb_2=>?_) fun hb_2=>?_
  ·refine arr 2 [6,5] rfl<|ly rfl rfl<|qc hb_2 (pg N · p0.R ·) rfl rfl rfl fun x3 hb_2=>la rfl ?_
   cases hb_2
   exact ku K
  ·refine arr 4 [] rfl ?_
   cases hb_2
   exact ku K
 refine la rfl ?_
 obtain ⟨b3,hb_3,h⟩:=bs h
 refine WL.cutN 5 [(21,.bool b3),(1,pQ b_1),(2,.bool false)] ?_ (fun K=>?_)
 rotate_left
 ·refine sp 16 hb_3 rfl (fun hb_3=>?_) fun hb_3=>?_
  ·refine arr 5 [1,0,0] rfl ?_
   cases hb_3
   exact ku K
  ·refine arr 5 [] rfl ?_
   cases hb_3
   exact ku K
 refine la rfl ?_
 obtain ⟨b4,hb_4,h⟩:=bs h
 refine WL.cutN 5 [(27,.bool b4),(2,.bool false)] ?_ (fun K=>?_)
 rotate_left
 ·refine sp 22 hb_4 rfl (fun hb_4=>?_) fun hb_4=>?_
  ·refine arr 5 [6,0,0] rfl ?_
   cases hb_4
   exact ku K
  ·refine arr 5 [] rfl ?_
   cases hb_4
   exact ku K
 refine la rfl<|en ?_
 exact rt hF h
theorem lY (w0:ab Ψ Φ []) (p0:aW) (p1:(List ByteArray)) (ph1:RSl RS 1 Ψ pG1 pv1 p1) {r:Bool} (h:ij N p0 p1=some r) :
  CB w0 prog 228 [.agg [iV p0.K,.string p0.S,iV p0.V.K,iV p0.V.N,.string p0.V.S].toArray,pv1] (.bool r):=by
 refine eN func228 rfl ntmps228 rfl w0 fun hF=>?_
 unfold ij at h
 refine sr<|lbx rfl fun b_1=>arr 8 [0,0] rfl ?_
 obtain ⟨b1,hb_1,h⟩:=bs h
 refine WL.cutN 5 [(13,.bool b1),(4,.bool false)] ?_ (fun K=>?_)
 rotate_left
 ·refine sp 8 hb_1 rfl (fun hb_1=>?_) fun hb_1=>?_
  ·refine arr 5 [] rfl ?_
   cases hb_1
   exact ku K
  ·refine arr 3 [1,0] rfl<|ly rfl rfl<|qd hb_1 (sU N · p1 p0.S ph1 ·) rfl rfl rfl fun x1 hb_1=>la rfl ?_
   cases hb_1
   exact ku K
 refine la rfl<|en ?_
 exact rt hF h
theorem z5 (w0:ab Ψ Φ []) (p0:(List bj)) (p1:(List ByteArray)) (ph0:RSl aZ 11 Ψ pG0 pv0 p0) (ph1:RSl RS 1 Ψ pG1 pv1 p1) {r:Bool} (h:oD N p0 p1=some r) :
  CB w0 prog 197 [pv0,pv1] (.bool r):=by
 refine eN func197 rfl ntmps197 rfl w0 fun hF=>?_
 unfold oD at h
 refine att 10 [] rfl ?_
 refine lin (σ:=Int) (fun s=>[(0,pv0),(1,pv1),(5,iV s)]) (fun s=>St w0 Φ [] []) (fun m s=>eS N p0 p1 m s=some r) (0) N h (sx [] []) (fun n1 ih1 s hm=>?_)
 revert hm; revert s; intro s1 hm
 have h:eS N p0 p1 (n1+1) s1=some r:=hm
 show WT _ _ [(0,pv0),(1,pv1),(5,iV s1)] (St w0 Φ [] [])
 unfold eS at h
 refine atr 5 [] rfl<|lnr ph0 rfl<|la rfl<|en ?_
 refine ch h rfl ?_ ?_ <;> intro h
 ·refine atr 7 [] rfl ?_
  obtain ⟨x1,hx1,h⟩:=bs h
  obtain ⟨cs1,F1,-,g1,hb1,hs1,r1⟩:=ph0.el (a7 hx1).2.2
  obtain ⟨rfl,-⟩:=r1
  refine lia ph0 hx1 rfl<|lhx 0 11 g1 rfl<|qc h (BK N · x1 ·) rfl rfl rfl fun x2 h=>arr 2 [] rfl ?_
  obtain ⟨b1,hb_1,h⟩:=bs h
  refine WL.cutN 9 [(27,.bool b1),(0,pv0),(1,pv1),(5,iV s1)] ?_ (fun K=>?_)
  rotate_left
  ·refine sp 18 hb_1 rfl (fun hb_1=>?_) fun hb_1=>?_
   ·refine arr 9 [] rfl ?_
    cases hb_1
    exact ku K
   ·refine arr 2 [] rfl<|ly rfl rfl ?_
    obtain ⟨x3,hx3,hb_1⟩:=bs hb_1
    obtain ⟨cs2,F2,-,g2,hb2,hs2,r2⟩:=ph0.el (a7 hx3).2.2
    obtain ⟨rfl,-⟩:=r2
    refine lia ph0 hx3 rfl<|ly rfl rfl<|lf Ct rfl rfl rfl<|ly rfl rfl<|lhx 1 5 g2 rfl<|ly rfl rfl<|la rfl<|ly rfl rfl<|qd hb_1 (lY N · x3.L p1 ph1 ·) rfl rfl rfl fun x4 hb_1=>arr 2 [] rfl ?_
    cases hb_1
    exact ku K
  refine la rfl ?_
  obtain ⟨b2,hb_2,h⟩:=bs h
  refine WL.cutN 9 [(37,.bool b2),(0,pv0),(1,pv1),(5,iV s1)] ?_ (fun K=>?_)
  rotate_left
  ·refine sp 28 hb_2 rfl (fun hb_2=>?_) fun hb_2=>?_
   ·refine arr 9 [] rfl ?_
    cases hb_2
    exact ku K
   ·refine arr 2 [] rfl<|ly rfl rfl ?_
    obtain ⟨x5,hx5,hb_2⟩:=bs hb_2
    obtain ⟨cs3,F3,-,g3,hb3,hs3,r3⟩:=ph0.el (a7 hx5).2.2
    obtain ⟨rfl,-⟩:=r3
    refine lia ph0 hx5 rfl<|ly rfl rfl<|lf Cy rfl rfl rfl<|ly rfl rfl<|lhx 6 5 g3 rfl<|ly rfl rfl<|la rfl<|ly rfl rfl<|qd hb_2 (lY N · x5.R p1 ph1 ·) rfl rfl rfl fun x6 hb_2=>arr 2 [] rfl ?_
    cases hb_2
    exact ku K
  refine en ?_
  refine ch h rfl ?_ ?_ <;> intro h
  ·refine att 4 [] rfl ?_
   exact rt hF h
  refine att 7 [] rfl ?_
  exact lb [] [] (ih1 _ h)
 refine atr 4 [] rfl<|lnr ph0 rfl<|art 3 [] rfl ?_
 exact rt hF h
theorem qw  (w0:ab Ψ Φ []) (p0:aW)  {r:Bool} (h:jA N p0=some r) :
  CB w0 prog 251 [.agg [iV p0.K,.string p0.S,iV p0.V.K,iV p0.V.N,.string p0.V.S].toArray] (.bool r):=by
 refine eN func251 rfl ntmps251 rfl w0 fun hF=>?_
 unfold jA at h
 refine sr<|lbx rfl fun b_1=>arr 5 [5] rfl<|qc h (pg N · p0 ·) rfl rfl rfl fun x1 h=>la rfl ?_
 obtain ⟨b1,hb_1,h⟩:=bs h
 refine WL.cutN 4 [(9,.bool b1),(2,.bool false)] ?_ (fun K=>?_)
 rotate_left
 ·refine sp 5 hb_1 rfl (fun hb_1=>?_) fun hb_1=>?_
  ·refine arr 4 [0,0] rfl ?_
   cases hb_1
   exact ku K
  ·refine arr 4 [] rfl ?_
   cases hb_1
   exact ku K
 refine la rfl<|en ?_
 exact rt hF h
theorem Bl  (w0:ab Ψ Φ []) (p0:bh)  {r:Bool} (h:qa N p0=some r) :
  CB w0 prog 248 [.agg [.string p0.Op,iV p0.L.K,.string p0.L.S,iV p0.L.V.K,iV p0.L.V.N,.string p0.L.V.S,iV p0.R.K,.string p0.R.S,iV p0.R.V.K,iV p0.R.V.N,.string p0.R.V.S].toArray] (.bool r):=by
 refine eN func248 rfl ntmps248 rfl w0 fun hF=>?_
 unfold qa at h
 refine sr<|lbx rfl fun b_1=>art 14 [0,0] rfl ?_
 refine ch h rfl ?_ ?_ <;> intro h
 ·refine atr 4 [1,5] rfl<|qc h (qw N · p0.L ·) rfl rfl rfl fun x1 h=>la rfl ?_
  obtain ⟨b1,hb_1,h⟩:=bs h
  refine WL.cutN 5 [(15,.bool b1),(2,.bool false)] ?_ (fun K=>?_)
  rotate_left
  ·refine sp 10 hb_1 rfl (fun hb_1=>?_) fun hb_1=>?_
   ·refine arr 2 [6,5] rfl<|ly rfl rfl<|lq (cG (vs:=[]) (C:=#[iV 0,.string (⟨#[]⟩:ByteArray),iV 0,iV 0,.string (⟨#[]⟩:ByteArray)]) Hy oK rfl (aq)) rfl<|ly rfl rfl<|lq (Ff Gy rfl rfl rfl (r:=ql p0.R (⟨0,(⟨#[]⟩:ByteArray),(⟨0,0,(⟨#[]⟩:ByteArray)⟩:aE)⟩:aW)) rfl) rfl<|la rfl ?_
    cases hb_1
    exact ku K
   ·refine arr 5 [] rfl ?_
    cases hb_1
    exact ku K
  refine la rfl<|en ?_
  exact rt hF h
 refine att 6 [] rfl ?_
 refine cut (σ:=Bool) (fun s=>[(1,pQ b_1),(16,.bool s)]) (fun s=>St w0 Φ [(b_1,.cells #[.string p0.Op,iV p0.L.K,.string p0.L.S,iV p0.L.V.K,iV p0.L.V.N,.string p0.L.V.S,iV p0.R.K,.string p0.R.S,iV p0.R.V.K,iV p0.R.V.N,.string p0.R.V.S] 280 (0,0))] []) (fun s=>jg N p0 s=some r) (fun s hm=>?_) (fun K=>?_)
 ·clear h
  revert hm; revert s; intro s1 hm
  have h:jg N p0 s1=some r:=hm
  show WT _ _ [(1,pQ b_1),(16,.bool s1)] (St w0 Φ [(b_1,.cells #[.string p0.Op,iV p0.L.K,.string p0.L.S,iV p0.L.V.K,iV p0.L.V.N,.string p0.L.V.S,iV p0.R.K,.string p0.R.S,iV p0.R.V.K,iV p0.R.V.N,.string p0.R.V.S] 280 (0,0))] [])
  unfold jg at h
  refine ch h rfl ?_ ?_ <;> intro h
  ·refine atr 4 [1,5] rfl<|qc h (qw N · p0.L ·) rfl rfl rfl fun x2 h=>la rfl ?_
   obtain ⟨b2,hb_2,h⟩:=bs h
   refine WL.cutN 4 [(26,.bool b2)] ?_ (fun K=>?_)
   rotate_left
   ·refine sp 22 hb_2 rfl (fun hb_2=>?_) fun hb_2=>?_
    ·refine arr 2 [6,5] rfl<|ly rfl rfl<|qc hb_2 (qw N · p0.R ·) rfl rfl rfl fun x3 hb_2=>la rfl ?_
     cases hb_2
     exact ku K
    ·refine arr 4 [] rfl ?_
     cases hb_2
     exact ku K
   refine la rfl<|en ?_
   exact rt hF h
  refine att 6 [] rfl ?_
  exact rt hF h
 refine ch h rfl ?_ ?_ <;> intro h
 ·refine WT.skip ?_
  exact wo [] [0] (K _ h)
 refine att 4 [] rfl ?_
 exact wo [] [0] (K _ h)
theorem rL (w0:ab Ψ Φ []) (p0:(List bh)) (ph0:RSl bq 11 Ψ pG0 pv0 p0) {r:Bool} (h:kR N p0=some r) :
  CB w0 prog 242 [pv0] (.bool r):=by
 refine eN func242 rfl ntmps242 rfl w0 fun hF=>?_
 unfold kR at h
 refine att 10 [] rfl ?_
 refine lin (σ:=Int) (fun s=>[(0,pv0),(3,iV s)]) (fun s=>St w0 Φ [] []) (fun m s=>fP N p0 m s=some r) (0) N h (sx [] []) (fun n1 ih1 s hm=>?_)
 revert hm; revert s; intro s1 hm
 have h:fP N p0 (n1+1) s1=some r:=hm
 show WT _ _ [(0,pv0),(3,iV s1)] (St w0 Φ [] [])
 unfold fP at h
 refine atr 5 [] rfl<|lnr ph0 rfl<|la rfl<|en ?_
 refine ch h rfl ?_ ?_ <;> intro h
 ·refine atr 7 [] rfl ?_
  obtain ⟨x1,hx1,h⟩:=bs h
  obtain ⟨cs1,F1,-,g1,hb1,hs1,r1⟩:=ph0.el (a7 hx1).2.2
  obtain ⟨rfl,-⟩:=r1
  refine lia ph0 hx1 rfl<|lhx 0 11 g1 rfl<|qc h (Bl N · x1 ·) rfl rfl rfl fun x2 h=>la rfl<|en ?_
  refine ch h rfl ?_ ?_ <;> intro h
  ·refine att 4 [] rfl ?_
   exact rt hF h
  refine att 7 [] rfl ?_
  exact lb [] [] (ih1 _ h)
 refine atr 4 [] rfl<|lnr ph0 rfl<|art 3 [] rfl ?_
 exact rt hF h
theorem Dd (w0:ab Ψ Φ []) (p0:bH) (ph0_0:RSl bq 11 Ψ pG0_0 pv0_0 p0.Args) {r:Bool} (h:rX N p0=some r) :
  CB w0 prog 229 [.agg [iV p0.Kind,.string p0.Name,pv0_0,iV p0.N,.string p0.Undo].toArray] (.bool r):=by
 refine eN func229 rfl ntmps229 rfl w0 fun hF=>?_
 unfold rX at h
 refine sr<|lbx rfl fun b_1=>arr 8 [1,0] rfl ?_
 obtain ⟨b1,hb_1,h⟩:=bs h
 refine WL.cutN 5 [(12,.bool b1),(1,pQ b_1)] ?_ (fun K=>?_)
 rotate_left
 ·refine sp 7 hb_1 rfl (fun hb_1=>?_) fun hb_1=>?_
  ·refine arr 2 [2,0] rfl<|ly rfl rfl<|lnr ph0_0 rfl<|arr 2 [] rfl ?_
   cases hb_1
   exact ku K
  ·refine arr 5 [] rfl ?_
   cases hb_1
   exact ku K
 refine la rfl ?_
 obtain ⟨b2,hb_2,h⟩:=bs h
 refine WL.cutN 4 [(17,.bool b2),(1,pQ b_1)] ?_ (fun K=>?_)
 rotate_left
 ·refine sp 13 hb_2 rfl (fun hb_2=>?_) fun hb_2=>?_
  ·refine arr 4 [4,0] rfl ?_
   cases hb_2
   exact ku K
  ·refine arr 4 [] rfl ?_
   cases hb_2
   exact ku K
 refine art 14 [0,0] rfl ?_
 refine ch h rfl ?_ ?_ <;> intro h
 ·refine atr 4 [1,0] rfl<|qc h (fO N · p0.Name ·) rfl rfl rfl fun x1 h=>la rfl ?_
  obtain ⟨b3,hb_3,h⟩:=bs h
  refine WL.cutN 4 [(29,.bool b3),(1,pQ b_1)] ?_ (fun K=>?_)
  rotate_left
  ·refine sp 25 hb_3 rfl (fun hb_3=>?_) fun hb_3=>?_
   ·refine arr 2 [2,0] rfl<|ly rfl rfl<|qd hb_3 (rL N · p0.Args ph0_0 ·) rfl rfl rfl fun x2 hb_3=>la rfl ?_
    cases hb_3
    exact ku K
   ·refine arr 4 [] rfl ?_
    cases hb_3
    exact ku K
  refine la rfl ?_
  obtain ⟨b4,hb_4,h⟩:=bs h
  refine WL.cutN 4 [(34,.bool b4),(1,pQ b_1)] ?_ (fun K=>?_)
  rotate_left
  ·refine sp 30 hb_4 rfl (fun hb_4=>?_) fun hb_4=>?_
   ·refine arr 4 [3,0] rfl ?_
    cases hb_4
    exact ku K
   ·refine arr 4 [] rfl ?_
    cases hb_4
    exact ku K
  refine la rfl ?_
  obtain ⟨b5,hb_5,h⟩:=bs h
  refine WL.cutN 4 [(39,.bool b5)] ?_ (fun K=>?_)
  rotate_left
  ·refine sp 35 hb_5 rfl (fun hb_5=>?_) fun hb_5=>?_
   ·refine arr 4 [4,0] rfl ?_
    cases hb_5
    exact ku K
   ·refine arr 4 [] rfl ?_
    cases hb_5
    exact ku K
  refine la rfl<|en ?_
  exact rt hF h
 refine att 5 [] rfl ?_
 refine ch h rfl ?_ ?_ <;> intro h
 ·refine atr 4 [1,0] rfl<|qc h (fO N · p0.Name ·) rfl rfl rfl fun x3 h=>la rfl ?_
  obtain ⟨b6,hb_6,h⟩:=bs h
  refine WL.cutN 4 [(49,.bool b6),(1,pQ b_1)] ?_ (fun K=>?_)
  rotate_left
  ·refine sp 45 hb_6 rfl (fun hb_6=>?_) fun hb_6=>?_
   ·refine arr 2 [2,0] rfl<|ly rfl rfl<|qd hb_6 (rL N · p0.Args ph0_0 ·) rfl rfl rfl fun x4 hb_6=>la rfl ?_
    cases hb_6
    exact ku K
   ·refine arr 4 [] rfl ?_
    cases hb_6
    exact ku K
  refine la rfl ?_
  obtain ⟨b7,hb_7,h⟩:=bs h
  refine WL.cutN 4 [(54,.bool b7),(1,pQ b_1)] ?_ (fun K=>?_)
  rotate_left
  ·refine sp 50 hb_7 rfl (fun hb_7=>?_) fun hb_7=>?_
   ·refine arr 4 [3,0] rfl ?_
    cases hb_7
    exact ku K
   ·refine arr 4 [] rfl ?_
    cases hb_7
    exact ku K
  refine la rfl ?_
  obtain ⟨b8,hb_8,h⟩:=bs h
  refine WL.cutN 9 [(64,.bool b8)] ?_ (fun K=>?_)
  rotate_left
  ·refine sp 55 hb_8 rfl (fun hb_8=>?_) fun hb_8=>?_
   ·refine arr 4 [4,0] rfl ?_
    obtain ⟨b9,hb_9,hb_8⟩:=bs hb_8
    refine WL.cutN 4 [(63,.bool b9),(55,.bool true)] ?_ (fun K=>?_)
    rotate_left
    ·refine sp 59 hb_9 rfl (fun hb_9=>?_) fun hb_9=>?_
     ·refine arr 4 [] rfl ?_
      cases hb_9
      exact ku K
     ·refine arr 2 [4,0] rfl<|ly rfl rfl<|qc hb_9 (fO N · p0.Undo ·) rfl rfl rfl fun x5 hb_9=>ly rfl rfl<|la rfl ?_
      cases hb_9
      exact ku K
    refine la rfl ?_
    cases hb_8
    exact ku K
   ·refine arr 9 [] rfl ?_
    cases hb_8
    exact ku K
  refine la rfl<|en ?_
  exact rt hF h
 refine att 5 [] rfl ?_
 refine ch h rfl ?_ ?_ <;> intro h
 ·refine atr 4 [1,0] rfl<|qc h (fO N · p0.Name ·) rfl rfl rfl fun x6 h=>la rfl ?_
  obtain ⟨b10,hb_10,h⟩:=bs h
  refine WL.cutN 4 [(74,.bool b10),(1,pQ b_1)] ?_ (fun K=>?_)
  rotate_left
  ·refine sp 70 hb_10 rfl (fun hb_10=>?_) fun hb_10=>?_
   ·refine arr 2 [2,0] rfl<|ly rfl rfl<|qd hb_10 (rL N · p0.Args ph0_0 ·) rfl rfl rfl fun x7 hb_10=>la rfl ?_
    cases hb_10
    exact ku K
   ·refine arr 4 [] rfl ?_
    cases hb_10
    exact ku K
  refine la rfl ?_
  obtain ⟨b11,hb_11,h⟩:=bs h
  refine WL.cutN 4 [(79,.bool b11),(1,pQ b_1)] ?_ (fun K=>?_)
  rotate_left
  ·refine sp 75 hb_11 rfl (fun hb_11=>?_) fun hb_11=>?_
   ·refine arr 2 [3,0] rfl<|ly rfl rfl<|qc hb_11 (cj N · p0.N 0 100000 ·) rfl rfl rfl fun x8 hb_11=>la rfl ?_
    cases hb_11
    exact ku K
   ·refine arr 4 [] rfl ?_
    cases hb_11
    exact ku K
  refine la rfl ?_
  obtain ⟨b12,hb_12,h⟩:=bs h
  refine WL.cutN 4 [(84,.bool b12)] ?_ (fun K=>?_)
  rotate_left
  ·refine sp 80 hb_12 rfl (fun hb_12=>?_) fun hb_12=>?_
   ·refine arr 4 [4,0] rfl ?_
    cases hb_12
    exact ku K
   ·refine arr 4 [] rfl ?_
    cases hb_12
    exact ku K
  refine la rfl<|en ?_
  exact rt hF h
 refine att 5 [] rfl ?_
 refine ch h rfl ?_ ?_ <;> intro h
 ·refine atr 4 [] rfl ?_
  obtain ⟨b13,hb_13,h⟩:=bs h
  refine WL.cutN 4 [(92,.bool b13)] ?_ (fun K=>?_)
  rotate_left
  ·refine sp 88 hb_13 rfl (fun hb_13=>?_) fun hb_13=>?_
   ·refine arr 2 [3,0] rfl<|ly rfl rfl<|qc hb_13 (cj N · p0.N 0 7 ·) rfl rfl rfl fun x9 hb_13=>la rfl ?_
    cases hb_13
    exact ku K
   ·refine arr 4 [] rfl ?_
    cases hb_13
    exact ku K
  refine la rfl<|en ?_
  exact rt hF h
 refine att 6 [] rfl ?_
 refine cut (σ:=Bool) (fun s=>[(1,pQ b_1),(3,.bool b2),(93,.bool s)]) (fun s=>St w0 Φ [(b_1,.cells #[iV p0.Kind,.string p0.Name,pv0_0,iV p0.N,.string p0.Undo] 232 (0,0))] []) (fun s=>ke N p0 b2 s=some r) (fun s hm=>?_) (fun K=>?_)
 ·clear h
  revert hm; revert s; intro s1 hm
  have h:ke N p0 b2 s1=some r:=hm
  show WT _ _ [(1,pQ b_1),(3,.bool b2),(93,.bool s1)] (St w0 Φ [(b_1,.cells #[iV p0.Kind,.string p0.Name,pv0_0,iV p0.N,.string p0.Undo] 232 (0,0))] [])
  unfold ke at h
  refine ch h rfl ?_ ?_ <;> intro h
  ·refine atr 4 [] rfl ?_
   obtain ⟨b14,hb_14,h⟩:=bs h
   refine WL.cutN 4 [(101,.bool b14)] ?_ (fun K=>?_)
   rotate_left
   ·refine sp 97 hb_14 rfl (fun hb_14=>?_) fun hb_14=>?_
    ·refine arr 4 [3,0] rfl ?_
     cases hb_14
     exact ku K
    ·refine arr 4 [] rfl ?_
     cases hb_14
     exact ku K
   refine la rfl<|en ?_
   exact rt hF h
  refine att 6 [] rfl ?_
  exact rt hF h
 refine ch h rfl ?_ ?_ <;> intro h
 ·refine WT.skip ?_
  exact wo [] [0] (K _ h)
 refine att 4 [] rfl ?_
 exact wo [] [0] (K _ h)
theorem B6 (w0:ab Ψ Φ []) (p0:(List bH)) (p1:(List ByteArray)) (p2:Int) (ph0:RSl dZ 5 Ψ pG0 pv0 p0) (ph1:RSl RS 1 Ψ pG1 pv1 p1) {r:Bool} (h:pY N p0 p1 p2=some r) :
  CB w0 prog 198 [pv0,pv1,iV p2] (.bool r):=by
 refine eN func198 rfl ntmps198 rfl w0 fun hF=>?_
 unfold pY at h
 refine att 10 [] rfl ?_
 refine lin (σ:=Int) (fun s=>[(0,pv0),(1,pv1),(2,iV p2),(7,iV s)]) (fun s=>St w0 Φ [] []) (fun m s=>cM N p0 p1 p2 m s=some r) (0) N h (sx [] []) (fun n1 ih1 s hm=>?_)
 revert hm; revert s; intro s1 hm
 have h:cM N p0 p1 p2 (n1+1) s1=some r:=hm
 show WT _ _ [(0,pv0),(1,pv1),(2,iV p2),(7,iV s1)] (St w0 Φ [] [])
 unfold cM at h
 refine atr 5 [] rfl<|lnr ph0 rfl<|la rfl<|en ?_
 refine ch h rfl ?_ ?_ <;> intro h
 ·refine atr 8 [] rfl ?_
  obtain ⟨x1,hx1,h⟩:=bs h
  obtain ⟨cs1,F1,-,g1,hb1,hs1,r1⟩:=ph0.el (a7 hx1).2.2
  obtain ⟨v1,G1,rfl,hq1,h1⟩:=r1
  obtain rfl:=hq1.symm
  refine lia ph0 hx1 rfl<|lhx 0 5 g1 rfl<|qd h (Dd N · x1 h1 ·) rfl rfl rfl fun x2 h=>arr 2 [] rfl ?_
  obtain ⟨b1,hb_1,h⟩:=bs h
  refine WL.cutN 16 [(37,.bool b1),(0,pv0),(1,pv1),(2,iV p2),(7,iV s1)] ?_ (fun K=>?_)
  rotate_left
  ·refine sp 21 hb_1 rfl (fun hb_1=>?_) fun hb_1=>?_
   ·refine arr 16 [] rfl ?_
    cases hb_1
    exact ku K
   ·refine arr 2 [] rfl<|ly rfl rfl ?_
    obtain ⟨x3,hx3,hb_1⟩:=bs hb_1
    obtain ⟨cs2,F2,-,g2,hb2,hs2,r2⟩:=ph0.el (a7 hx3).2.2
    obtain ⟨v2,G2,rfl,hq2,h2⟩:=r2
    obtain rfl:=hq2.symm
    refine lia ph0 hx3 rfl<|ly rfl rfl<|lf Cv rfl rfl rfl<|ly rfl rfl<|lhx 0 0 g2 rfl<|arr 2 [] rfl ?_
    obtain ⟨b2,hb_2,hb_1⟩:=bs hb_1
    refine WL.cutN 8 [(36,.bool b2),(0,pv0),(1,pv1),(2,iV p2),(7,iV s1),(21,.bool false)] ?_ (fun K=>?_)
    rotate_left
    ·refine sp 28 hb_2 rfl (fun hb_2=>?_) fun hb_2=>?_
     ·refine arr 2 [] rfl<|ly rfl rfl ?_
      obtain ⟨x4,hx4,hb_2⟩:=bs hb_2
      obtain ⟨cs3,F3,-,g3,hb3,hs3,r3⟩:=ph0.el (a7 hx4).2.2
      obtain ⟨v3,G3,rfl,hq3,h3⟩:=r3
      obtain rfl:=hq3.symm
      refine lia ph0 hx4 rfl<|ly rfl rfl<|lf Cc rfl rfl rfl<|ly rfl rfl<|lhx 3 0 g3 rfl<|arr 3 [] rfl ?_
      cases hb_2
      exact ku K
     ·refine arr 8 [] rfl ?_
      cases hb_2
      exact ku K
    refine la rfl ?_
    cases hb_1
    exact ku K
  refine en ?_
  refine ch h rfl ?_ ?_ <;> intro h
  ·refine att 4 [] rfl ?_
   exact rt hF h
  refine att 6 [] rfl ?_
  refine lin (σ:=Int) (fun s=>[(0,pv0),(1,pv1),(2,iV p2),(7,iV s1),(8,iV s)]) (fun s=>St w0 Φ [] []) (fun m s=>fJ N p0 p1 s1 (cM N p0 p1 p2 n1) m s=some r) (0) N h (sx [] []) (fun n2 ih2 s hm=>?_)
  revert hm; revert s; intro s2 hm
  have h:fJ N p0 p1 s1 (cM N p0 p1 p2 n1) (n2+1) s2=some r:=hm
  show WT _ _ [(0,pv0),(1,pv1),(2,iV p2),(7,iV s1),(8,iV s2)] (St w0 Φ [] [])
  unfold fJ at h
  refine atr 6 [] rfl ?_
  obtain ⟨x5,hx5,h⟩:=bs h
  obtain ⟨cs4,F4,-,g4,hb4,hs4,r4⟩:=ph0.el (a7 hx5).2.2
  obtain ⟨v4,G4,rfl,hq4,h4⟩:=r4
  obtain rfl:=hq4.symm
  refine lia ph0 hx5 rfl<|lf sv rfl rfl rfl<|lhx 2 0 g4 rfl<|lnr h4 rfl<|la rfl<|en ?_
  refine ch h rfl ?_ ?_ <;> intro h
  ·refine atr 7 [] rfl ?_
   obtain ⟨x6,hx6,h⟩:=bs h
   obtain ⟨cs5,F5,-,g5,hb5,hs5,r5⟩:=ph0.el (a7 hx6).2.2
   obtain ⟨v5,G5,rfl,hq5,h5⟩:=r5
   obtain rfl:=hq5.symm
   refine lia ph0 hx6 rfl<|lf sv rfl rfl rfl<|lhx 2 0 g5 rfl<|la rfl ?_
   obtain ⟨x7,hx7,h⟩:=bs h
   obtain ⟨cs6,F6,-,g6,hb6,hs6,r6⟩:=h5.el (a7 hx7).2.2
   obtain ⟨rfl,-⟩:=r6
   refine lia h5 hx7 rfl<|lf C5 rfl rfl rfl<|lhx 1 5 g6 rfl<|la rfl<|qd h (lY N · x7.L p1 ph1 ·) rfl rfl rfl fun x8 h=>arr 2 [] rfl ?_
   obtain ⟨b3,hb_3,h⟩:=bs h
   refine WL.cutN 13 [(73,.bool b3),(0,pv0),(1,pv1),(2,iV p2),(7,iV s1),(8,iV s2)] ?_ (fun K=>?_)
   rotate_left
   ·refine sp 60 hb_3 rfl (fun hb_3=>?_) fun hb_3=>?_
    ·refine arr 13 [] rfl ?_
     cases hb_3
     exact ku K
    ·refine arr 2 [] rfl<|ly rfl rfl ?_
     obtain ⟨x9,hx9,hb_3⟩:=bs hb_3
     obtain ⟨cs7,F7,-,g7,hb7,hs7,r7⟩:=ph0.el (a7 hx9).2.2
     obtain ⟨v6,G6,rfl,hq6,h6⟩:=r7
     obtain rfl:=hq6.symm
     refine lia ph0 hx9 rfl<|ly rfl rfl<|lf sv rfl rfl rfl<|ly rfl rfl<|lhx 2 0 g7 rfl<|ly rfl rfl<|la rfl<|ly rfl rfl ?_
     obtain ⟨x10,hx10,hb_3⟩:=bs hb_3
     obtain ⟨cs8,F8,-,g8,hb8,hs8,r8⟩:=h6.el (a7 hx10).2.2
     obtain ⟨rfl,-⟩:=r8
     refine lia h6 hx10 rfl<|ly rfl rfl<|lf Cx rfl rfl rfl<|ly rfl rfl<|lhx 6 5 g8 rfl<|ly rfl rfl<|la rfl<|ly rfl rfl<|qd hb_3 (lY N · x10.R p1 ph1 ·) rfl rfl rfl fun x11 hb_3=>arr 2 [] rfl ?_
     cases hb_3
     exact ku K
   refine en ?_
   refine ch h rfl ?_ ?_ <;> intro h
   ·refine att 4 [] rfl ?_
    exact rt hF h
   refine att 7 [] rfl ?_
   exact lb [] [] (ih2 _ h)
  refine att 7 [] rfl ?_
  exact lb [] [] (ih1 _ h)
 refine atr 4 [] rfl<|lnr ph0 rfl<|qc h (cj N · (p0.length:Int) 1 6 ·) rfl rfl rfl fun x12 h=>la rfl<|en ?_
 exact rt hF h
theorem xX (w0:ab Ψ Φ []) (p0:af) (ph0_0:RSl bR 3 Ψ pG0_0 pv0_0 p0.Pats) (ph0_1:RSl aZ 11 Ψ pG0_1 pv0_1 p0.Conds) (ph0_2:RSl dZ 5 Ψ pG0_2 pv0_2 p0.Acts) {r:Int} (h:mz N p0=some r) :
  CB w0 prog 199 [.agg [.string p0.Name,iV p0.Sal,pv0_0,pv0_1,pv0_2].toArray] (iV r):=by
 refine eN func199 rfl ntmps199 rfl w0 fun hF=>?_
 unfold mz at h
 refine sr<|lbx rfl fun b_1=>art 12 [] rfl ?_
 refine lin (σ:=Int × Int) (fun s=>[(1,pQ b_1),(3,iV s.1),(4,iV s.2)]) (fun s=>St w0 Φ [(b_1,.cells #[.string p0.Name,iV p0.Sal,pv0_0,pv0_1,pv0_2] 145 (0,0))] []) (fun m s=>d5 N p0 m s.1 s.2=some r) (0,0) N h (sx [] [0]) (fun n1 ih1 s hm=>?_)
 obtain ⟨s1,s2⟩:=s
 have h:d5 N p0 (n1+1) s1 s2=some r:=hm
 show WT _ _ [(1,pQ b_1),(3,iV s1),(4,iV s2)] (St w0 Φ [(b_1,.cells #[.string p0.Name,iV p0.Sal,pv0_0,pv0_1,pv0_2] 145 (0,0))] [])
 unfold d5 at h
 refine atr 6 [2,0] rfl<|lnr ph0_0 rfl<|la rfl<|en ?_
 refine ch h rfl ?_ ?_ <;> intro h
 ·refine atr 8 [2,0] rfl ?_
  obtain ⟨x1,hx1,h⟩:=bs h
  obtain ⟨cs1,F1,-,g1,hb1,hs1,r1⟩:=ph0_0.el (a7 hx1).2.2
  obtain ⟨v1,G1,rfl,hq1,h1⟩:=r1
  obtain rfl:=hq1.symm
  refine lia ph0_0 hx1 rfl<|lf lr rfl rfl rfl<|lhx 2 0 g1 rfl<|la rfl<|en ?_
  refine ch h rfl ?_ ?_ <;> intro h
  ·refine att 11 [] rfl ?_
   exact lb [] [0] (ih1 (_,_) h)
  refine att 7 [] rfl ?_
  exact lb [] [0] (ih1 (_,_) h)
 refine att 6 [] rfl ?_
 exact rt hF h
theorem Av (w0:ab Ψ Φ []) (p0:af) (ph0_0:RSl bR 3 Ψ pG0_0 pv0_0 p0.Pats) (ph0_1:RSl aZ 11 Ψ pG0_1 pv0_1 p0.Conds) (ph0_2:RSl dZ 5 Ψ pG0_2 pv0_2 p0.Acts) {r:Bool} (h:qx N p0=some r) :
  CB w0 prog 161 [.agg [.string p0.Name,iV p0.Sal,pv0_0,pv0_1,pv0_2].toArray] (.bool r):=by
 refine eN func161 rfl ntmps161 rfl w0 fun hF=>?_
 unfold qx at h
 refine sr<|lbx rfl fun b_1=>arr 5 [5] rfl<|kab h rfl rfl rfl (fun b z q=>yt N b p0 (ph0_0.y z) (ph0_1.y z) (ph0_2.y z) q) ?_
 rintro x1 h v1 Φ_1 F1 ⟨ap1,fr1,v2,rfl,rfl,h1⟩
 refine art 3 [] rfl<|WT.draw d7 (by kernel_rfl) (fun _ h=>h.drew)<|aqq 2 [0,0] rfl ?_
 obtain ⟨x2,hx2,h⟩:=bs h
 refine qp (bM Jh rfl (fun w1 hw=>fO N (ba hw.fro) p0.Name hx2)) rfl<|qq (jD rfl) rfl ?_
 obtain ⟨b1,hb_1,h⟩:=bs h
 refine WQ.cutN 4 [(13,.bool b1),(1,pQ b_1),(3,v1)] ?_ (fun K=>?_)
 rotate_left
 ·refine WQ.split (d:=9) rfl (fun c1=>?_) (fun c1=>?_)
  ·replace hb_1:=jl hb_1 c1
   refine aqq 2 [1,0] rfl<|WQ.yes rfl rfl ?_
   obtain ⟨x3,hx3,hb_1⟩:=bs hb_1
   refine qp (bM JK rfl (fun w1 hw=>cj N (ba hw.fro) p0.Sal (-100) 100 hx3)) rfl<|WQ.q (sT rfl rfl) rfl rfl rfl ?_
   cases hb_1
   exact kq K
  ·replace hb_1:=jn hb_1 c1
   refine aqq 4 [] rfl ?_
   cases hb_1
   exact kq K
 refine qq (jD rfl) rfl ?_
 obtain ⟨b2,hb_2,h⟩:=bs h
 refine WQ.cutN 4 [(18,.bool b2),(1,pQ b_1),(3,v1)] ?_ (fun K=>?_)
 rotate_left
 ·refine WQ.split (d:=14) rfl (fun c2=>?_) (fun c2=>?_)
  ·replace hb_2:=jl hb_2 c2
   refine aqq 2 [2,0] rfl<|WQ.yes rfl rfl ?_
   obtain ⟨x4,hx4,hb_2⟩:=bs hb_2
   refine qp (bM Jm rfl (fun w1 hw=>AP N (ba hw.in0) p0.Pats ph0_0 hx4)) rfl<|WQ.q (sT rfl rfl) rfl rfl rfl ?_
   cases hb_2
   exact kq K
  ·replace hb_2:=jn hb_2 c2
   refine aqq 4 [] rfl ?_
   cases hb_2
   exact kq K
 refine qq (jD rfl) rfl ?_
 obtain ⟨b3,hb_3,h⟩:=bs h
 refine WQ.cutN 5 [(24,.bool b3),(1,pQ b_1),(3,v1)] ?_ (fun K=>?_)
 rotate_left
 ·refine WQ.split (d:=19) rfl (fun c3=>?_) (fun c3=>?_)
  ·replace hb_3:=jl hb_3 c3
   refine aqq 3 [3,0] rfl<|WQ.yes rfl rfl ?_
   obtain ⟨x5,hx5,hb_3⟩:=bs hb_3
   refine qp (bM IL rfl (fun w1 hw=>z5 N (ba hw.fro) p0.Conds x1 (ph0_1.y hw.up) h1.rsl hx5)) rfl<|WQ.q (sT rfl rfl) rfl rfl rfl ?_
   cases hb_3
   exact kq K
  ·replace hb_3:=jn hb_3 c3
   refine aqq 5 [] rfl ?_
   cases hb_3
   exact kq K
 refine qq (jD rfl) rfl ?_
 obtain ⟨b4,hb_4,h⟩:=bs h
 refine WQ.cutN 7 [(32,.bool b4)] ?_ (fun K=>?_)
 rotate_left
 ·refine WQ.split (d:=25) rfl (fun c4=>?_) (fun c4=>?_)
  ·replace hb_4:=jl hb_4 c4
   refine aqq 4 [4,0,5] rfl<|WQ.yes rfl rfl ?_
   obtain ⟨x6,hx6,hb_4⟩:=bs hb_4
   refine qp (bM IR rfl (fun w1 hw=>xX N (ba hw.in0) p0 ph0_0 ph0_1 ph0_2 hx6)) rfl<|WQ.yes rfl rfl ?_
   obtain ⟨x7,hx7,hb_4⟩:=bs hb_4
   refine qp (bM Jk rfl (fun w1 hw=>B6 N (ba hw.fro) p0.Acts x1 x6 (ph0_2.y hw.up) h1.rsl hx7)) rfl<|WQ.q (sT rfl rfl) rfl rfl rfl ?_
   cases hb_4
   exact kq K
  ·replace hb_4:=jn hb_4 c4
   refine aqq 7 [] rfl ?_
   cases hb_4
   exact kq K
 refine aqt 2 [] rfl ?_
 exact rt hF h
theorem AN (w0:ab Ψ Φ []) (p0:bl) (p1:ByteArray) (ph0_0:RSl bU 5 Ψ pG0_0 pv0_0 p0.Rules) {r:Int} (h:qf N p0 p1=some r) :
  CB w0 prog 162 [.agg [.string p0.Name,pv0_0].toArray,.string p1] (iV r):=by
 refine eN func162 rfl ntmps162 rfl w0 fun hF=>?_
 unfold qf at h
 refine sr<|lbx rfl fun b_1=>art 8 [] rfl ?_
 refine lin (σ:=Int) (fun s=>[(1,.string p1),(2,pQ b_1),(5,iV s)]) (fun s=>St w0 Φ [(b_1,.cells #[.string p0.Name,pv0_0] 47 (0,0))] []) (fun m s=>fK N p0 p1 m s=some r) (0) N h (sx [] [0]) (fun n1 ih1 s hm=>?_)
 revert hm; revert s; intro s1 hm
 have h:fK N p0 p1 (n1+1) s1=some r:=hm
 show WT _ _ [(1,.string p1),(2,pQ b_1),(5,iV s1)] (St w0 Φ [(b_1,.cells #[.string p0.Name,pv0_0] 47 (0,0))] [])
 unfold fK at h
 refine atr 6 [1,0] rfl<|lnr ph0_0 rfl<|la rfl<|en ?_
 refine ch h rfl ?_ ?_ <;> intro h
 ·refine atr 8 [1,0] rfl ?_
  obtain ⟨x1,hx1,h⟩:=bs h
  obtain ⟨cs1,F1,-,g1,hb1,hs1,r1⟩:=ph0_0.el (a7 hx1).2.2
  obtain ⟨v1,G1,v2,G2,v3,G3,rfl,rfl,h1,h2,h3⟩:=r1
  refine lia ph0_0 hx1 rfl<|lf wP rfl rfl rfl<|lhx 0 0 g1 rfl<|art 3 [] rfl ?_
  refine ch h rfl ?_ ?_ <;> intro h
  ·refine att 5 [] rfl ?_
   exact rt hF h
  refine att 7 [] rfl ?_
  exact lb [] [0] (ih1 _ h)
 refine att 5 [] rfl ?_
 exact rt hF h
theorem DO (w0:ab Ψ Φ []) (p0:bl) (ph0_0:RSl bU 5 Ψ pG0_0 pv0_0 p0.Rules) {r:Bool} (h:s9 N p0=some r) :
  CB w0 prog 112 [.agg [.string p0.Name,pv0_0].toArray] (.bool r):=by
 refine eN func112 rfl ntmps112 rfl w0 fun hF=>?_
 unfold s9 at h
 refine sr<|lbx rfl fun b_1=>art 8 [] rfl ?_
 refine lin (σ:=Int) (fun s=>[(1,pQ b_1),(3,iV s)]) (fun s=>St w0 Φ [(b_1,.cells #[.string p0.Name,pv0_0] 47 (0,0))] []) (fun m s=>fC N p0 m s=some r) (0) N h (sx [] [0]) (fun n1 ih1 s hm=>?_)
 revert hm; revert s; intro s1 hm
 have h:fC N p0 (n1+1) s1=some r:=hm
 show WT _ _ [(1,pQ b_1),(3,iV s1)] (St w0 Φ [(b_1,.cells #[.string p0.Name,pv0_0] 47 (0,0))] [])
 unfold fC at h
 refine atr 6 [1,0] rfl<|lnr ph0_0 rfl<|la rfl<|en ?_
 refine ch h rfl ?_ ?_ <;> intro h
 ·refine att 4 [] rfl<|WT.draw d7 (by kernel_rfl) (fun _ h=>h.drew)<|aqq 3 [1,0] rfl ?_
  obtain ⟨x1,hx1,h⟩:=bs h
  obtain ⟨cs1,F1,-,g1,hb1,hs1,r1⟩:=ph0_0.el (a7 hx1).2.2
  obtain ⟨v1,G1,v2,G2,v3,G3,rfl,rfl,h1,h2,h3⟩:=r1
  refine qq (aa C6 rfl rfl ph0_0 hx1) rfl<|qq (aw tS rfl (fun w1 hw=>(g1.of_eq 0 5 rfl rfl:rg _ _ _ [.string x1.Name,iV x1.Sal,v1,v2,v3]).rangeAt hw.in0) rfl) rfl ?_
  obtain ⟨x2,hx2,h⟩:=bs h
  refine qp (bM Jg rfl (fun w1 hw=>Av N (ba hw.in0) x1 h1 h2 h3 hx2)) rfl<|aqq 2 [] rfl ?_
  obtain ⟨b1,hb_1,h⟩:=bs h
  refine WQ.cutN 11 [(29,.bool b1),(1,pQ b_1),(3,iV s1)] ?_ (fun K=>?_)
  rotate_left
  ·refine WQ.split (d:=18) rfl (fun c2=>?_) (fun c2=>?_)
   ·replace hb_1:=jl hb_1 c2
    refine aqq 11 [] rfl ?_
    cases hb_1
    exact kq K
   ·replace hb_1:=jn hb_1 c2
    refine aqq 4 [2,1,0] rfl<|WQ.yes rfl rfl ?_
    obtain ⟨x3,hx3,hb_1⟩:=bs hb_1
    obtain ⟨cs2,F2,-,g2,hb2,hs2,r2⟩:=ph0_0.el (a7 hx3).2.2
    obtain ⟨v4,G4,v5,G5,v6,G6,rfl,rfl,h4,h5,h6⟩:=r2
    refine qq (aa C6 rfl rfl ph0_0 hx3) rfl<|WQ.yes rfl rfl<|qq (aH wP rfl) rfl<|WQ.yes rfl rfl<|qq (bk Nz rfl (fun w1 hw=>(g2.of_eq 0 1 rfl rfl:rg _ _ _ [.string x3.Name]).rangeAt hw.in0)) rfl<|WQ.yes rfl rfl ?_
    obtain ⟨x4,hx4,hb_1⟩:=bs hb_1
    refine qp (bM II rfl (fun w1 hw=>AN N (ba hw.in0) p0 x3.Name ph0_0 hx4)) rfl<|aqq 3 [] rfl ?_
    cases hb_1
    exact kq K
  refine WQ.nil ?_
  refine ch h rfl ?_ ?_ <;> intro h
  ·refine att 4 [] rfl ?_
   exact rt hF h
  refine att 7 [] rfl ?_
  exact lb [] [0] (ih1 _ h)
 refine atr 5 [0,0] rfl<|qc h (fO N · p0.Name ·) rfl rfl rfl fun x5 h=>la rfl ?_
 obtain ⟨b2,hb_2,h⟩:=bs h
 refine WL.cutN 5 [(38,.bool b2)] ?_ (fun K=>?_)
 rotate_left
 ·refine sp 33 hb_2 rfl (fun hb_2=>?_) fun hb_2=>?_
  ·refine arr 2 [1,0] rfl<|ly rfl rfl<|lnr ph0_0 rfl<|ly rfl rfl<|qc hb_2 (cj N · (p0.Rules.length:Int) 1 12 ·) rfl rfl rfl fun x6 hb_2=>la rfl ?_
   cases hb_2
   exact ku K
  ·refine arr 5 [] rfl ?_
   cases hb_2
   exact ku K
 refine la rfl<|en ?_
 exact rt hF h
theorem ri (w0:ab Ψ Φ []) (p0:(List Int)) (p1:(List Int)) (ph0:RSl (RI .i64) 1 Ψ pG0 pv0 p0) (ph1:RSl (RI .i64) 1 Ψ pG1 pv1 p1) {r:Bool} (h:jB N p0 p1=some r) :
  CB w0 prog 164 [pv0,pv1] (.bool r):=by
 refine eN func164 rfl ntmps164 rfl w0 fun hF=>?_
 unfold jB at h
 refine atr 8 [] rfl<|lnr ph0 rfl<|la rfl<|lnr ph1 rfl<|la rfl<|en ?_
 refine ch h rfl ?_ ?_ <;> intro h
 ·refine att 4 [] rfl ?_
  exact rt hF h
 refine att 7 [] rfl ?_
 refine lin (σ:=Int) (fun s=>[(0,pv0),(1,pv1),(5,iV s)]) (fun s=>St w0 Φ [] []) (fun m s=>i8 N p0 p1 m s=some r) (0) N h (sx [] []) (fun n1 ih1 s hm=>?_)
 revert hm; revert s; intro s1 hm
 have h:i8 N p0 p1 (n1+1) s1=some r:=hm
 show WT _ _ [(0,pv0),(1,pv1),(5,iV s1)] (St w0 Φ [] [])
 unfold i8 at h
 refine atr 5 [] rfl<|lnr ph0 rfl<|la rfl<|en ?_
 refine ch h rfl ?_ ?_ <;> intro h
 ·refine att 4 [] rfl<|WT.draw d7 (by kernel_rfl) (fun _ h=>h.drew)<|aqq 2 [] rfl ?_
  obtain ⟨x1,hx1,h⟩:=bs h
  obtain ⟨cs1,F1,-,g1,hb1,hs1,r1⟩:=ph0.el (a7 hx1).2.2
  obtain ⟨rfl,-⟩:=r1
  refine qq (aa bg rfl rfl ph0 hx1) rfl<|qq (bk xI rfl (fun w1 hw=>(g1.of_eq 0 1 rfl rfl:rg _ _ _ [iV x1]).rangeAt hw.in0)) rfl<|aqq 2 [] rfl ?_
  obtain ⟨x2,hx2,h⟩:=bs h
  obtain ⟨cs2,F2,-,g2,hb2,hs2,r2⟩:=ph1.el (a7 hx2).2.2
  obtain ⟨rfl,-⟩:=r2
  refine qq (aa bg rfl rfl ph1 hx2) rfl<|qq (bk xI rfl (fun w1 hw=>(g2.of_eq 0 1 rfl rfl:rg _ _ _ [iV x2]).rangeAt hw.in0)) rfl<|aqt 2 [] rfl ?_
  refine ch h rfl ?_ ?_ <;> intro h
  ·refine att 4 [] rfl ?_
   exact rt hF h
  refine att 7 [] rfl ?_
  exact lb [] [] (ih1 _ h)
 refine att 5 [] rfl ?_
 exact rt hF h
theorem rV (w0:ab Ψ Φ []) (p0:a8) (p1:a8) (ph0_0:RSl av 3 Ψ pG0_0 pv0_0 p0.Consts) (ph0_1:RSl (RI .i64) 1 Ψ pG0_1 pv0_1 p0.At) (ph1_0:RSl av 3 Ψ pG1_0 pv1_0 p1.Consts) (ph1_1:RSl (RI .i64) 1 Ψ pG1_1 pv1_1 p1.At) {r:Bool} (h:iW N p0 p1=some r) :
  CB w0 prog 163 [.agg [.string p0.Kind,iV p0.N,pv0_0,pv0_1].toArray,.agg [.string p1.Kind,iV p1.N,pv1_0,pv1_1].toArray] (.bool r):=by
 refine eN func163 rfl ntmps163 rfl w0 fun hF=>?_
 unfold iW at h
 refine sr<|lbx rfl fun b_1=>lbx rfl fun b_2=>arr 10 [0,32,0,0] rfl ?_
 obtain ⟨b1,hb_1,h⟩:=bs h
 refine WL.cutN 6 [(16,.bool b1),(2,pQ b_1),(3,pQ b_2),(4,.bool false)] ?_ (fun K=>?_)
 rotate_left
 ·refine sp 10 hb_1 rfl (fun hb_1=>?_) fun hb_1=>?_
  ·refine arr 6 [1,32,1,0] rfl ?_
   cases hb_1
   exact ku K
  ·refine arr 6 [] rfl ?_
   cases hb_1
   exact ku K
 refine la rfl ?_
 obtain ⟨b2,hb_2,h⟩:=bs h
 refine WL.cutN 6 [(23,.bool b2),(2,pQ b_1),(3,pQ b_2),(4,.bool false)] ?_ (fun K=>?_)
 rotate_left
 ·refine sp 17 hb_2 rfl (fun hb_2=>?_) fun hb_2=>?_
  ·refine arr 4 [3,32,3,0] rfl<|ly rfl rfl<|qd hb_2 (ri N · p0.At p1.At ph0_1 ph1_1 ·) rfl rfl rfl fun x1 hb_2=>la rfl ?_
   cases hb_2
   exact ku K
  ·refine arr 6 [] rfl ?_
   cases hb_2
   exact ku K
 refine la rfl ?_
 obtain ⟨b3,hb_3,h⟩:=bs h
 refine WL.cutN 6 [(30,.bool b3),(4,.bool false)] ?_ (fun K=>?_)
 rotate_left
 ·refine sp 24 hb_3 rfl (fun hb_3=>?_) fun hb_3=>?_
  ·refine arr 4 [2,32,2,0] rfl<|ly rfl rfl<|qd hb_3 (rE N · p0.Consts p1.Consts ph0_0 ph1_0 ·) rfl rfl rfl fun x2 hb_3=>la rfl ?_
   cases hb_3
   exact ku K
  ·refine arr 6 [] rfl ?_
   cases hb_3
   exact ku K
 refine la rfl<|en ?_
 exact rt hF h
theorem yv (w0:ab Ψ Φ []) (p0:bd) (p1:bd) (ph0_0:RSl be 4 Ψ pG0_0 pv0_0 p0.Alphas) (ph0_1:RSl bv 2 Ψ pG0_1 pv0_1 p0.Chains) (ph1_0:RSl be 4 Ψ pG1_0 pv1_0 p1.Alphas) (ph1_1:RSl bv 2 Ψ pG1_1 pv1_1 p1.Chains) {r:Bool} (h:oC N p0 p1=some r) :
  CB w0 prog 113 [.agg [pv0_0,pv0_1].toArray,.agg [pv1_0,pv1_1].toArray] (.bool r):=by
 refine eN func113 rfl ntmps113 rfl w0 fun hF=>?_
 unfold oC at h
 refine sr<|lbx rfl fun b_1=>lbx rfl fun b_2=>arr 7 [0,32] rfl<|lnr ph0_0 rfl<|arr 2 [0,0] rfl<|lnr ph1_0 rfl<|arr 2 [] rfl ?_
 obtain ⟨b1,hb_1,h⟩:=bs h
 refine WL.cutN 8 [(22,.bool b1),(2,pQ b_1),(3,pQ b_2)] ?_ (fun K=>?_)
 rotate_left
 ·refine sp 14 hb_1 rfl (fun hb_1=>?_) fun hb_1=>?_
  ·refine arr 8 [] rfl ?_
   cases hb_1
   exact ku K
  ·refine arr 2 [1,32] rfl<|ly rfl rfl<|lnr ph0_1 rfl<|arr 2 [1,0] rfl<|ly rfl rfl<|lnr ph1_1 rfl<|arr 2 [] rfl ?_
   cases hb_1
   exact ku K
 refine en ?_
 refine ch h rfl ?_ ?_ <;> intro h
 ·refine att 4 [] rfl ?_
  exact rt hF h
 refine att 7 [] rfl ?_
 refine lin (σ:=Int) (fun s=>[(2,pQ b_1),(3,pQ b_2),(5,iV s)]) (fun s=>St w0 Φ [(b_2,.cells #[pv1_0,pv1_1] 52 (0,0)),(b_1,.cells #[pv0_0,pv0_1] 52 (0,0))] []) (fun m s=>dD N p0 p1 m s=some r) (0) N h (sx [] [0,0]) (fun n1 ih1 s hm=>?_)
 revert hm; revert s; intro s1 hm
 have h:dD N p0 p1 (n1+1) s1=some r:=hm
 show WT _ _ [(2,pQ b_1),(3,pQ b_2),(5,iV s1)] (St w0 Φ [(b_2,.cells #[pv1_0,pv1_1] 52 (0,0)),(b_1,.cells #[pv0_0,pv0_1] 52 (0,0))] [])
 unfold dD at h
 refine atr 6 [0,32] rfl<|lnr ph0_0 rfl<|la rfl<|en ?_
 refine ch h rfl ?_ ?_ <;> intro h
 ·refine att 4 [] rfl<|WT.draw d7 (by kernel_rfl) (fun _ h=>h.drew)<|aqq 3 [0,32] rfl ?_
  obtain ⟨x1,hx1,h⟩:=bs h
  obtain ⟨cs1,F1,-,g1,hb1,hs1,r1⟩:=ph0_0.el (a7 hx1).2.2
  obtain ⟨v1,G1,v2,G2,rfl,rfl,h1,h2⟩:=r1
  refine qq (aa uA rfl rfl ph0_0 hx1) rfl<|qq (aw qL rfl (fun w1 hw=>(g1.of_eq 0 4 rfl rfl:rg _ _ _ [.string x1.Kind,iV x1.N,v1,v2]).rangeAt hw.in0) rfl) rfl<|aqq 3 [0,0] rfl ?_
  obtain ⟨x2,hx2,h⟩:=bs h
  obtain ⟨cs2,F2,-,g2,hb2,hs2,r2⟩:=ph1_0.el (a7 hx2).2.2
  obtain ⟨v3,G3,v4,G4,rfl,rfl,h3,h4⟩:=r2
  refine qq (aa uA rfl rfl ph1_0 hx2) rfl<|qq (aw qL rfl (fun w1 hw=>(g2.of_eq 0 4 rfl rfl:rg _ _ _ [.string x2.Kind,iV x2.N,v3,v4]).rangeAt hw.in0) rfl) rfl ?_
  obtain ⟨x3,hx3,h⟩:=bs h
  refine qp (bM GQ rfl (fun w1 hw=>rV N (ba hw.in0) x1 x2 h1 h2 h3 h4 hx3)) rfl<|aqt 2 [] rfl ?_
  refine ch h rfl ?_ ?_ <;> intro h
  ·refine att 4 [] rfl ?_
   exact rt hF h
  refine att 7 [] rfl ?_
  exact lb [] [0,0] (ih1 _ h)
 refine att 7 [] rfl ?_
 refine lin (σ:=Int) (fun s=>[(2,pQ b_1),(3,pQ b_2),(6,iV s)]) (fun s=>St w0 Φ [(b_2,.cells #[pv1_0,pv1_1] 52 (0,0)),(b_1,.cells #[pv0_0,pv0_1] 52 (0,0))] []) (fun m s=>eR N p0 p1 m s=some r) (0) N h (sx [] [0,0]) (fun n2 ih2 s hm=>?_)
 revert hm; revert s; intro s2 hm
 have h:eR N p0 p1 (n2+1) s2=some r:=hm
 show WT _ _ [(2,pQ b_1),(3,pQ b_2),(6,iV s2)] (St w0 Φ [(b_2,.cells #[pv1_0,pv1_1] 52 (0,0)),(b_1,.cells #[pv0_0,pv0_1] 52 (0,0))] [])
 unfold eR at h
 refine atr 6 [1,32] rfl<|lnr ph0_1 rfl<|la rfl<|en ?_
 refine ch h rfl ?_ ?_ <;> intro h
 ·refine att 4 [] rfl<|WT.draw d7 (by kernel_rfl) (fun _ h=>h.drew)<|aqq 3 [1,32] rfl ?_
  obtain ⟨x4,hx4,h⟩:=bs h
  obtain ⟨cs3,F3,-,g3,hb3,hs3,r3⟩:=ph0_1.el (a7 hx4).2.2
  obtain ⟨v5,G5,v6,G6,rfl,rfl,h5,h6⟩:=r3
  refine qq (aa tq rfl rfl ph0_1 hx4) rfl<|qq (aH nt rfl) rfl<|qq (bk pX rfl (fun w1 hw=>(g3.of_eq 0 1 rfl rfl:rg _ _ _ [v5]).rangeAt hw.in0)) rfl<|aqq 3 [1,0] rfl ?_
  obtain ⟨x5,hx5,h⟩:=bs h
  obtain ⟨cs4,F4,-,g4,hb4,hs4,r4⟩:=ph1_1.el (a7 hx5).2.2
  obtain ⟨v7,G7,v8,G8,rfl,rfl,h7,h8⟩:=r4
  refine qq (aa tq rfl rfl ph1_1 hx5) rfl<|qq (aH nt rfl) rfl<|qq (bk pX rfl (fun w1 hw=>(g4.of_eq 0 1 rfl rfl:rg _ _ _ [v7]).rangeAt hw.in0)) rfl ?_
  obtain ⟨x6,hx6,h⟩:=bs h
  refine qp (bM Gx rfl (fun w1 hw=>ri N (ba hw.in0) x4.Pos x5.Pos h5 h7 hx6)) rfl<|aqq 2 [] rfl ?_
  obtain ⟨b2,hb_2,h⟩:=bs h
  refine WQ.cutN 15 [(78,.bool b2),(2,pQ b_1),(3,pQ b_2),(6,iV s2)] ?_ (fun K=>?_)
  rotate_left
  ·refine WQ.split (d:=63) rfl (fun c6=>?_) (fun c6=>?_)
   ·replace hb_2:=jl hb_2 c6
    refine aqq 15 [] rfl ?_
    cases hb_2
    exact kq K
   ·replace hb_2:=jn hb_2 c6
    refine aqq 3 [1,32] rfl<|WQ.yes rfl rfl ?_
    obtain ⟨x7,hx7,hb_2⟩:=bs hb_2
    obtain ⟨cs5,F5,-,g5,hb5,hs5,r5⟩:=ph0_1.el (a7 hx7).2.2
    obtain ⟨v9,G9,v10,G10,rfl,rfl,h9,h10⟩:=r5
    refine qq (aa tq rfl rfl ph0_1 hx7) rfl<|WQ.yes rfl rfl<|qq (aH nq rfl) rfl<|WQ.yes rfl rfl<|qq (bk pX rfl (fun w1 hw=>(g5.of_eq 1 1 rfl rfl:rg _ _ _ [v10]).rangeAt hw.in0)) rfl<|aqq 3 [1,0] rfl<|WQ.yes rfl rfl ?_
    obtain ⟨x8,hx8,hb_2⟩:=bs hb_2
    obtain ⟨cs6,F6,-,g6,hb6,hs6,r6⟩:=ph1_1.el (a7 hx8).2.2
    obtain ⟨v11,G11,v12,G12,rfl,rfl,h11,h12⟩:=r6
    refine qq (aa tq rfl rfl ph1_1 hx8) rfl<|WQ.yes rfl rfl<|qq (aH nq rfl) rfl<|WQ.yes rfl rfl<|qq (bk pX rfl (fun w1 hw=>(g6.of_eq 1 1 rfl rfl:rg _ _ _ [v12]).rangeAt hw.in0)) rfl<|WQ.yes rfl rfl ?_
    obtain ⟨x9,hx9,hb_2⟩:=bs hb_2
    refine qp (bM Gx rfl (fun w1 hw=>ri N (ba hw.in0) x7.Neg x8.Neg h10 h12 hx9)) rfl<|aqq 2 [] rfl ?_
    cases hb_2
    exact kq K
  refine WQ.nil ?_
  refine ch h rfl ?_ ?_ <;> intro h
  ·refine att 4 [] rfl ?_
   exact rt hF h
  refine att 7 [] rfl ?_
  exact lb [] [0,0] (ih2 _ h)
 refine att 5 [] rfl ?_
 exact rt hF h
theorem Ag (w0:ab Ψ Φ [[pb0],ob pv0_0].flatten) (p0:bd) (p1:a8) (ph0_0:OSl be 148 4 Φ pD0_0 pv0_0 p0.Alphas) (ph0_1:RSl bv 2 Ψ pG0_1 pv0_1 p0.Chains) (pp0:Φ pb0=some (.cells #[pv0_0,pv0_1] 52 (0,0))) (ph1_0:RSl av 3 Ψ pG1_0 pv1_0 p1.Consts) (ph1_1:RSl (RI .i64) 1 Ψ pG1_1 pv1_1 p1.At) (pd0_0:Dj pD0_0 [[pb0],ob pv0_0].flatten) {r:Int × bd} (h:o9 N p0 p1=some r) :
  Calls prog 165 [pQ pb0,.agg [.string p1.Kind,iV p1.N,pv1_0,pv1_1].toArray].toArray w0.w (aL Φ w0.w [[pb0],ob pv0_0].flatten (fun Φ' Fs v=>∃ (so_0_0:Value) (Do_0_0:List Nat),v=iV r.1∧Fs=[[pb0],ob so_0_0]∧OSl be 148 4 Φ' Do_0_0 so_0_0 r.2.Alphas∧(∀ k∈Do_0_0,k∈(pD0_0++(pG1_0++pG1_1)))∧r.2.Chains=p0.Chains∧Φ' pb0=some (.cells #[so_0_0,pv0_1] 52 (0,0)))):=by
 refine eL func165 rfl ntmps165 rfl (L:=[[pb0],ob pv0_0]) w0 (fun hF=>?_)
 have pa0_0:=Old.mk w0 ph0_0.kn pd0_0
 unfold o9 at h
 refine sr<|lbx rfl fun b_1=>art 8 [] rfl ?_
 refine lin (σ:=Int) (fun s=>[(0,pQ pb0),(3,pQ b_1),(5,iV s)]) (fun s=>St w0 Φ [(b_1,.cells #[.string p1.Kind,iV p1.N,pv1_0,pv1_1] 148 (0,0))] [[pb0],ob pv0_0]) (fun m s=>eJ N p0 p1 m s=some r) (0) N h (sx [0,0] [0]) (fun n1 ih1 s hm=>?_)
 revert hm; revert s; intro s1 hm
 have h:eJ N p0 p1 (n1+1) s1=some r:=hm
 show WT _ _ [(0,pQ pb0),(3,pQ b_1),(5,iV s1)] (St w0 Φ [(b_1,.cells #[.string p1.Kind,iV p1.N,pv1_0,pv1_1] 148 (0,0))] [[pb0],ob pv0_0])
 unfold eJ at h
 refine atr 5 [] rfl<|lq (d9 rfl) rfl<|lf oe rfl rfl rfl<|lgx 0 0 (g9 pp0) rfl<|lno ph0_0 rfl<|la rfl<|en ?_
 refine ch h rfl ?_ ?_ <;> intro h
 ·refine att 4 [] rfl<|WT.draw d7 (by kernel_rfl) (fun _ h=>h.drew)<|qq (jD rfl) rfl<|qq (d9 rfl) rfl<|qq (aH oe rfl) rfl<|qq (bk HZ rfl (fun w1 hw=>((g9 pp0).of_eq 0 1 rfl rfl:rg _ _ _ [pv0_0]).rangeAt hw.fro)) rfl<|qq (jD rfl) rfl ?_
  obtain ⟨x1,hx1,h⟩:=bs h
  obtain ⟨cs1,F1,-,g1,hb1,hs1,r1⟩:=ph0_0.elS (a7 hx1).2.2
  obtain ⟨v1,G1,v2,G2,rfl,rfl,h1,h2⟩:=r1
  refine qq (aa uA rfl rfl ph0_0.rsl hx1) rfl<|qq (aw qL rfl (fun w1 hw=>(g1.of_eq 0 4 rfl rfl:rg _ _ _ [.string x1.Kind,iV x1.N,v1,v2]).rangeAt hw.fro) rfl) rfl<|qq (aw qL rfl (fun w1 hw=>hw.rgO (i:=0) rfl 0 4 [.string p1.Kind,iV p1.N,pv1_0,pv1_1] rfl) rfl) rfl ?_
  obtain ⟨x2,hx2,h⟩:=bs h
  refine qp (bM GQ rfl (fun w1 hw=>rV N (ba hw.fro) x1 p1 h1 h2 (ph1_0.y hw.up) (ph1_1.y hw.up) hx2)) rfl<|WQ.nil ?_
  refine ch h rfl ?_ ?_ <;> intro h
  ·refine att 5 [] rfl ?_
   exact rtg [0,0] hF (ao.one rfl) rfl (by cases h; exact fun w1 hw=>⟨pv0_0,pD0_0,rfl,rfl,ph0_0,(fun k hk=>(List.mem_append.2 (.inl hk))),rfl,pp0⟩)
  refine att 7 [] rfl ?_
  exact lb [0,0] [0] (ih1 _ h)
 refine xt rfl<|sq<|WT.mix (Kn w0 Φ [pb0] [(b_1,.cells #[.string p1.Kind,iV p1.N,pv1_0,pv1_1] 148 (0,0))]) (fun i=>match i with | 10=>false | _=>true) d7 (fun _ h=>h.drew)<|ma 0 rfl (by kernel_rfl) (kn Kf.id (am [0] rfl)) rfl<|ma 1 rfl (by kernel_rfl) (kn Kf.id (am [0] rfl)) rfl<|mq 2 rfl (by kernel_rfl) (kn Kf.id (am [0] rfl)) (d9 rfl) rfl<|mq 3 rfl (by kernel_rfl) (kn Kf.id (am [0] rfl)) (aH oe rfl) rfl ?_
 refine mq 4 rfl (by kernel_rfl) (kn Kf.id (am [0] rfl)) (bk HZ rfl (fun w1 hw=>hw.rg (by simp) ((g9 pp0).of_eq 0 1 rfl rfl:rg _ _ _ [pv0_0]))) rfl<|mq 5 rfl (by kernel_rfl) (kn Kf.id (am [0] rfl)) (aw qL rfl (fun w1 hw=>hw.rgO (i:=0) rfl 0 4 [.string p1.Kind,iV p1.N,pv1_0,pv1_1] rfl) rfl) rfl ?_
 first | refine mu0 ph1_0 fun h3=>?_ | refine iu0 ph1_0 fun h3=>?_
 first | refine mu0 ph1_1 fun h4=>?_ | refine iu0 ph1_1 fun h4=>?_
 have rc1:RC be 4 Φ ([pG1_0++(pG1_1)]:List (List Nat)) [.string p1.Kind,iV p1.N,pv1_0,pv1_1] ([p1]:List a8):=RC.cons (c:=[.string p1.Kind,iV p1.N,pv1_0,pv1_1]) (cells:=[]) ⟨pv1_0,pG1_0,pv1_1,pG1_1,rfl,rfl,h3,h4⟩ rfl (RC.nil _ _ _)
 refine WM.one 6 (by kernel_rfl) (me rfl (fun _ v Φx D w1 hq hw=>Kn.of (Kf.id.se hq.1) (am [0] rfl) hw) (ed (vs:=[(0,.agg [.string p1.Kind,iV p1.N,pv1_0,pv1_1].toArray)]) (C:=#[.string p1.Kind,iV p1.N,pv1_0,pv1_1]) be.lasts uA kX rfl rfl rfl rfl (aV ER (ag (C':=[.string p1.Kind,iV p1.N,pv1_0,pv1_1]) rfl rfl rfl rfl rfl (aq))) rfl rc1 rfl (RC.kn be.knows rc1)) rfl ?_)
 rintro v3 Φ_1 D1 ⟨fr1,h5⟩
 replace h5:OSl be 148 4 Φ_1 (pG1_0++(pG1_1)) v3 ([p1]:List a8):=by simpa [List.append_assoc] using h5
 replace ph0_0:=ph0_0.f0 fr1
 replace pp0:=fr1 _ _ (by simp) pp0
 obtain ⟨x3,hx3,h⟩:=bs h
 have kf1:=(Kf.id (F:=[pb0]):Kf Φ _ _).se fr1
 refine WM.one 7 (by kernel_rfl) (me rfl (fun _ v Φx D w1 hq hw=>Kn.of (kf1.st hq.1.2 (hq.1.1.r (i:=1) rfl)) (am [0] rfl) hw) (kj be.lasts be.one uA HE rfl rfl rfl rfl rfl (js:=[2]) (Rr:=[ob v3,[pb0]]) rfl ph0_0 h5 (fun ap=>(ap.o pa0_0)) (fun ap=>(Dj.sub (Dj.app (ap.o ph1_0.old) (ap.o ph1_1.old)) (fun k hk=>(by simpa [List.append_assoc] using hk:k∈(pG1_0++pG1_1))))) hx3) rfl ?_)
 rintro v4 Φ_2 D2 ⟨⟨ap1,fr2⟩,h6⟩
 replace pp0:=fr2 _ _ ((ap1.q 1 rfl) _ (by simp)) pp0
 have kf2:=kf1.st fr2 (ap1.q 1 rfl)
 refine mqT 8 [9,10] rfl (by kernel_rfl) (kn kf2 (am [0] rfl)) (d9 rfl) rfl<|mq 9 rfl (by kernel_rfl) (kn kf2 (am [0] rfl)) (aH oe rfl) rfl ?_
 refine WM.thw (js:=[2]) (R:=[ob v4,ob v3]) rfl pp0 (fun Φ_3 ap2 fr3=>?_)
 replace h6:=h6.fr fr3 (ap2.q 0 rfl) (Dj.app (ap2.o pa0_0) (Dj.sub (Dj.app (ap2.o ph1_0.old) (ap2.o ph1_1.old)) (fun k hk=>(by simpa [List.append_assoc] using hk:k∈(pG1_0++pG1_1)))))
 refine on1 10 (ms1 0 rfl nk I8 rfl h6.one ?_)
 refine WM.nil (by kernel_rfl)<|sr<|la rfl<|lq (d9 rfl) rfl<|arr 2 [0,0] rfl<|lno h6 rfl<|art 3 [] rfl ?_
 refine WT.frz (js:=[0]) (R:=[(b_1,.cells #[.string p1.Kind,iV p1.N,pv1_0,pv1_1] 148 (0,0))]) rfl (fun Φ_4 fr4 k1=>?_)
 replace h6:=h6.f0 fr4
 exact rtg [0,0] hF (ao.one rfl) rfl (by cases h; exact fun w1 hw=>⟨v4,(pD0_0++(pG1_0++(pG1_1))),rfl,rfl,h6,(fun k hk=>((List.mem_append.1 hk).elim (fun h=>(List.mem_append.2 (.inl h))) (fun h=>((List.mem_append.1 ((fun k hk=>(by simpa [List.append_assoc] using hk:k∈(pG1_0++pG1_1))) k h)).elim (fun h=>(List.mem_append.2 (.inr (List.mem_append.2 (.inl h))))) (fun h=>(List.mem_append.2 (.inr (List.mem_append.2 (.inr h))))))))),rfl,k1⟩)
end Go.Proofs.YtkdffjpgnhobhaaGreat
