/- Printed by a program of ours: each Go function computes its Lean function. -/
import Derived.Test.YtkdffjpgnhobhaaGreatProg
import Derived.Test.YtkdffjpgnhobhaaGreatWExactDropItemWalk5
namespace Go.Proofs.YtkdffjpgnhobhaaGreat
open Eng Tryz
open Go.RowKit (Below)
set_option linter.unusedVariables false
set_option linter.unusedSimpArgs false

set_option maxRecDepth 100000
set_option maxHeartbeats 1000000
variable {Ψ Φ:Hp} {pv0_0 pv0_1 pv1_0 pv1_1 pv0 pv2_0 pv2_1 pv3_0 pv0_2 pv2 pv0_3 pv0_4 pv0_5 pv1:Value} {pG0_0 pG0_1 pG1_0 pG1_1 pG0 pG2_0 pG2_1 pG3_0 pD0 pG0_2 pG2 pG0_3 pG0_4 pG0_5 pD1 pD2_0 pD2_1:List Nat} {pbc0:Nat} (N:Nat)
theorem E8 (w0:ab Ψ Φ []) (p0:bd) (p1:bl) (ph0_0:RSl be 4 Ψ pG0_0 pv0_0 p0.Alphas) (ph0_1:RSl bv 2 Ψ pG0_1 pv0_1 p0.Chains) (ph1_0:RSl bU 5 Ψ pG1_0 pv1_0 p1.Rules) {r:Bool} (h:sK N p0 p1=some r) :
  CB w0 prog 75 [.agg [pv0_0,pv0_1].toArray,.agg [.string p1.Name,pv1_0].toArray] (.bool r):=by
 refine eN func75 rfl ntmps75 rfl w0 fun hF=>?_
 unfold sK at h
 refine sr<|lbx rfl fun b_1=>lbx rfl fun b_2=>arr 6 [2] rfl<|qd h (Dq N · p1 ph1_0 ·) rfl rfl rfl fun x1 h=>la rfl<|en ?_
 refine ch h rfl ?_ ?_ <;> intro h
 ·refine att 4 [] rfl ?_
  exact rt hF h
 refine atr 4 [2] rfl<|kab h rfl rfl rfl (fun b z q=>Dl N b p1 (ph1_0.y z) q) ?_
 rintro x2 h v1 Φ_1 F1 ⟨ap1,fr1,v2,D1,v3,D2,rfl,rfl,h1,h2⟩
 refine lnz w5 rfl fun b_3=>soN 0 Cr rfl ⟨h1.one,h2.one,trivial⟩ rfl ?_
 refine arr 7 [0,64,0,0] rfl<|qz h (fun b z q=>fR N b p0.Alphas x2.Alphas (de N) (ph0_0.y z) (h1.rslG aK.gives) JL (fun hle' hin a0 a1=>fun f0 f1 f2 f3=>fun hr=>sB N (ba hin) a0 a1 f0 f1 f2 f3 hr) q) rfl rfl rfl fun x3 h=>la rfl ?_
 obtain ⟨b1,hb_1,h⟩:=bs h
 refine WL.cutN 6 [(22,.bool b1)] ?_ (fun K=>?_)
 rotate_left
 ·refine sp 16 hb_1 rfl (fun hb_1=>?_) fun hb_1=>?_
  ·refine arr 4 [1,64,1,0] rfl<|ly rfl rfl<|qz hb_1 (fun b z q=>fS N b p0.Chains x2.Chains (ey N) (ph0_1.y z) (h2.rslG aD.gives) JI (fun hle' hin a0 a1=>fun f0 f1 f2 f3=>fun hr=>ww N (ba hin) a0 a1 f0 f1 f2 f3 hr) q) rfl rfl rfl fun x4 hb_1=>la rfl ?_
   cases hb_1
   exact ku K
  ·refine arr 6 [] rfl ?_
   cases hb_1
   exact ku K
 refine la rfl<|en ?_
 exact rt hF h
theorem AB (w0:ab Ψ Φ []) (p0:aA) (ph0_0:RSl av 3 Ψ pG0_0 pv0_0 p0.Fields) {r:Bool} (h:qV N p0=some r) :
  CB w0 prog 133 [.agg [.string p0.Kind,pv0_0].toArray] (.bool r):=by
 refine eN func133 rfl ntmps133 rfl w0 fun hF=>?_
 unfold qV at h
 refine sr<|lbx rfl fun b_1=>arr 7 [0,0] rfl<|qc h (jf N · p0.Kind ·) rfl rfl rfl fun x1 h=>arr 2 [] rfl ?_
 obtain ⟨b1,hb_1,h⟩:=bs h
 refine WL.cutN 5 [(14,.bool b1),(1,pQ b_1)] ?_ (fun K=>?_)
 rotate_left
 ·refine sp 9 hb_1 rfl (fun hb_1=>?_) fun hb_1=>?_
  ·refine arr 5 [] rfl ?_
   cases hb_1
   exact ku K
  ·refine arr 2 [1,0] rfl<|ly rfl rfl<|lnr ph0_0 rfl<|arr 2 [] rfl ?_
   cases hb_1
   exact ku K
 refine en ?_
 refine ch h rfl ?_ ?_ <;> intro h
 ·refine att 4 [] rfl ?_
  exact rt hF h
 refine atr 6 [1,0] rfl<|lnr ph0_0 rfl<|art 3 [] rfl ?_
 refine lin (σ:=Int) (fun s=>[(16,pv0_0),(17,iV (p0.Fields.length:Int)),(18,iV s)]) (fun s=>St w0 Φ [] []) (fun m s=>em N p0 m s=some r) (0) N h (sx [] []) (fun n1 ih1 s hm=>?_)
 revert hm; revert s; intro s1 hm
 have h:em N p0 (n1+1) s1=some r:=hm
 show WT _ _ [(16,pv0_0),(17,iV (p0.Fields.length:Int)),(18,iV s1)] (St w0 Φ [] [])
 unfold em at h
 refine att 5 [] rfl ?_
 refine ch h rfl ?_ ?_ <;> intro h
 ·refine atr 5 [] rfl ?_
  obtain ⟨x2,hx2,h⟩:=bs h
  obtain ⟨cs1,F1,-,g1,hb1,hs1,r1⟩:=ph0_0.el (a7 hx2).2.2
  obtain ⟨rfl,-⟩:=r1
  refine lia ph0_0 hx2 rfl<|lhx 0 3 g1 rfl<|lnz jk rfl fun b_2=>soN 0 qb rfl ⟨rfl,rfl,rfl,trivial⟩ rfl ?_
  refine arr 4 [3] rfl<|qc h (vr N · x2 ·) rfl rfl rfl fun x3 h=>la rfl<|en ?_
  refine ch h rfl ?_ ?_ <;> intro h
  ·refine att 4 [] rfl ?_
   exact rt hF h
  refine att 6 [] rfl ?_
  exact lb [] [] (ih1 _ h)
 refine att 5 [] rfl ?_
 exact rt hF h
theorem xM (w0:ab Ψ Φ []) (p0:aA) (p1:aA) (ph0_0:RSl av 3 Ψ pG0_0 pv0_0 p0.Fields) (ph1_0:RSl av 3 Ψ pG1_0 pv1_0 p1.Fields) {r:Bool} (h:mm N p0 p1=some r) :
  CB w0 prog 134 [.agg [.string p0.Kind,pv0_0].toArray,.agg [.string p1.Kind,pv1_0].toArray] (.bool r):=by
 refine eN func134 rfl ntmps134 rfl w0 fun hF=>?_
 unfold mm at h
 refine sr<|lbx rfl fun b_1=>lbx rfl fun b_2=>arr 10 [0,32,0,0] rfl ?_
 obtain ⟨b1,hb_1,h⟩:=bs h
 refine WL.cutN 6 [(16,.bool b1),(4,.bool false)] ?_ (fun K=>?_)
 rotate_left
 ·refine sp 10 hb_1 rfl (fun hb_1=>?_) fun hb_1=>?_
  ·refine arr 4 [1,32,1,0] rfl<|ly rfl rfl<|qd hb_1 (jF N · p0.Fields p1.Fields ph0_0 ph1_0 ·) rfl rfl rfl fun x1 hb_1=>la rfl ?_
   cases hb_1
   exact ku K
  ·refine arr 6 [] rfl ?_
   cases hb_1
   exact ku K
 refine la rfl<|en ?_
 exact rt hF h
theorem yq (w0:ab Ψ Φ []) (p0:ah) (ph0_0:RSl bN 3 Ψ pG0_0 pv0_0 p0.Items) {r:Bool} (h:oz N p0=some r) :
  CB w0 prog 76 [.agg [pv0_0,iV p0.Next].toArray] (.bool r):=by
 refine eN func76 rfl ntmps76 rfl w0 fun hF=>?_
 unfold oz at h
 refine sr<|lbx rfl fun b_1=>arr 7 [0,0] rfl<|lnr ph0_0 rfl<|arr 2 [] rfl ?_
 obtain ⟨b1,hb_1,h⟩:=bs h
 refine WL.cutN 5 [(16,.bool b1),(1,pQ b_1)] ?_ (fun K=>?_)
 rotate_left
 ·refine sp 11 hb_1 rfl (fun hb_1=>?_) fun hb_1=>?_
  ·refine arr 5 [] rfl ?_
   cases hb_1
   exact ku K
  ·refine arr 2 [1,0] rfl<|ly rfl rfl<|qc hb_1 (cm N · p0.Next 1 1000000 ·) rfl rfl rfl fun x1 hb_1=>arr 2 [] rfl ?_
   cases hb_1
   exact ku K
 refine en ?_
 refine ch h rfl ?_ ?_ <;> intro h
 ·refine att 4 [] rfl ?_
  exact rt hF h
 refine atr 6 [0,0] rfl<|lnr ph0_0 rfl<|art 3 [] rfl ?_
 refine lin (σ:=Int) (fun s=>[(1,pQ b_1),(18,pv0_0),(19,iV (p0.Items.length:Int)),(20,iV s)]) (fun s=>St w0 Φ [(b_1,.cells #[pv0_0,iV p0.Next] 57 (0,0))] []) (fun m s=>ct N p0 m s=some r) (0) N h (sx [] [0]) (fun n1 ih1 s hm=>?_)
 revert hm; revert s; intro s1 hm
 have h:ct N p0 (n1+1) s1=some r:=hm
 show WT _ _ [(1,pQ b_1),(18,pv0_0),(19,iV (p0.Items.length:Int)),(20,iV s1)] (St w0 Φ [(b_1,.cells #[pv0_0,iV p0.Next] 57 (0,0))] [])
 unfold ct at h
 refine att 5 [] rfl ?_
 refine ch h rfl ?_ ?_ <;> intro h
 ·refine atr 6 [] rfl ?_
  obtain ⟨x2,hx2,h⟩:=bs h
  obtain ⟨cs1,F1,-,g1,hb1,hs1,r1⟩:=ph0_0.el (a7 hx2).2.2
  obtain ⟨v1,G1,rfl,hq1,h1⟩:=r1
  obtain rfl:=hq1.symm
  refine lia ph0_0 hx2 rfl<|lhx 0 3 g1 rfl<|lnz vd rfl fun b_2=>la rfl<|soN 0 wS rfl ⟨rfl,rfl,h1.one,trivial⟩ rfl ?_
  refine art 3 [] rfl<|WT.draw d7 (by kernel_rfl) (fun _ h=>h.drew)<|aqq 2 [1,2] rfl ?_
  obtain ⟨x3,hx3,h⟩:=bs h
  refine qp (bM JG rfl (fun w1 hw=>AB N (ba hw.in0) x2.F h1 hx3)) rfl<|aqq 2 [] rfl ?_
  obtain ⟨b2,hb_2,h⟩:=bs h
  refine WQ.cutN 8 [(37,.bool b2),(1,pQ b_1),(3,iV s1),(4,pQ b_2),(18,pv0_0),(19,iV (p0.Items.length:Int)),(20,iV s1)] ?_ (fun K=>?_)
  rotate_left
  ·refine WQ.split (d:=29) rfl (fun c4=>?_) (fun c4=>?_)
   ·replace hb_2:=jl hb_2 c4
    refine aqq 8 [] rfl ?_
    cases hb_2
    exact kq K
   ·replace hb_2:=jn hb_2 c4
    refine aqq 5 [0,0,1,32] rfl<|WQ.yes rfl rfl ?_
    obtain ⟨x4,hx4,hb_2⟩:=bs hb_2
    refine qp (bM JC rfl (fun w1 hw=>cm N (ba hw.fro) x2.Id 1 (wz (p0.Next - 1)) hx4)) rfl<|aqq 2 [] rfl ?_
    cases hb_2
    exact kq K
  refine qq (jD rfl) rfl ?_
  obtain ⟨b3,hb_3,h⟩:=bs h
  refine WQ.cutN 15 [(53,.bool b3),(1,pQ b_1),(3,iV s1),(4,pQ b_2),(18,pv0_0),(19,iV (p0.Items.length:Int)),(20,iV s1)] ?_ (fun K=>?_)
  rotate_left
  ·refine WQ.split (d:=38) rfl (fun c5=>?_) (fun c5=>?_)
   ·replace hb_3:=jl hb_3 c5
    refine aqq 15 [] rfl ?_
    cases hb_3
    exact kq K
   ·replace hb_3:=jn hb_3 c5
    refine aqq 3 [] rfl ?_
    obtain ⟨b4,hb_4,hb_3⟩:=bs hb_3
    refine WQ.cutN 11 [(52,.bool b4),(1,pQ b_1),(3,iV s1),(4,pQ b_2),(18,pv0_0),(19,iV (p0.Items.length:Int)),(20,iV s1),(38,.bool false)] ?_ (fun K=>?_)
    rotate_left
    ·refine WQ.split (d:=41) rfl (fun c6=>?_) (fun c6=>?_)
     ·replace hb_4:=jl hb_4 c6
      refine aqq 6 [0,0,0,32] rfl<|WQ.yes rfl rfl ?_
      obtain ⟨x5,hx5,hb_4⟩:=bs hb_4
      obtain ⟨cs2,F2,-,g2,hb2,hs2,r2⟩:=ph0_0.el (a7 hx5).2.2
      obtain ⟨v2,G2,rfl,hq2,h2⟩:=r2
      obtain rfl:=hq2.symm
      refine qq (aa zq rfl rfl ph0_0 hx5) rfl<|WQ.yes rfl rfl<|qq (aH sJ rfl) rfl<|WQ.yes rfl rfl<|qq (bk xI rfl (fun w1 hw=>(g2.of_eq 0 1 rfl rfl:rg _ _ _ [iV x5.Id]).rangeAt hw.in0)) rfl<|aqq 2 [] rfl ?_
      cases hb_4
      exact kq K
     ·replace hb_4:=jn hb_4 c6
      refine aqq 11 [] rfl ?_
      cases hb_4
      exact kq K
    refine WQ.q (uf rfl rfl) rfl rfl rfl ?_
    cases hb_3
    exact kq K
  refine WQ.nil ?_
  refine ch h rfl ?_ ?_ <;> intro h
  ·refine att 4 [] rfl ?_
   exact rt hF h
  refine atr 6 [0,32] rfl ?_
  obtain ⟨x6,hx6,h⟩:=bs h
  refine lq (Nl zq rfl rfl ph0_0 hx6) rfl ?_
  obtain ⟨F3,h3,hs3⟩:=ph0_0.sub hx6
  refine lnr h3 rfl<|art 3 [] rfl ?_
  refine lin (σ:=Int) (fun s=>[(1,pQ b_1),(4,pQ b_2),(18,pv0_0),(19,iV (p0.Items.length:Int)),(20,iV s1),(57,(slc pv0_0 (0:Int).toNat s1.toNat 3)),(58,iV (x6.length:Int)),(59,iV s)]) (fun s=>St w0 Φ [(b_2,.cells #[iV x2.Id,.string x2.F.Kind,v1] 155 (0,0)),(b_1,.cells #[pv0_0,iV p0.Next] 57 (0,0))] []) (fun m s=>dH N s1 (ct N p0 n1) x2 x6 m s=some r) (0) N h (sx [] [0,0]) (fun n2 ih2 s hm=>?_)
  revert hm; revert s; intro s2 hm
  have h:dH N s1 (ct N p0 n1) x2 x6 (n2+1) s2=some r:=hm
  show WT _ _ [(1,pQ b_1),(4,pQ b_2),(18,pv0_0),(19,iV (p0.Items.length:Int)),(20,iV s1),(57,(slc pv0_0 (0:Int).toNat s1.toNat 3)),(58,iV (x6.length:Int)),(59,iV s2)] (St w0 Φ [(b_2,.cells #[iV x2.Id,.string x2.F.Kind,v1] 155 (0,0)),(b_1,.cells #[pv0_0,iV p0.Next] 57 (0,0))] [])
  unfold dH at h
  refine att 5 [] rfl ?_
  refine ch h rfl ?_ ?_ <;> intro h
  ·refine atr 5 [] rfl ?_
   obtain ⟨x7,hx7,h⟩:=bs h
   obtain ⟨cs3,F4,-,g3,hb3,hs4,r3⟩:=h3.el (a7 hx7).2.2
   obtain ⟨v3,G3,rfl,hq3,h4⟩:=r3
   obtain rfl:=hq3.symm
   refine lia h3 hx7 rfl<|lhx 0 3 g3 rfl<|lnz vd rfl fun b_3=>soN 0 wS rfl ⟨rfl,rfl,h4.one,trivial⟩ rfl ?_
   refine arr 7 [1,34,1,2] rfl<|qd h (xM N · x2.F x7.F h1 h4 ·) rfl rfl rfl fun x8 h=>en ?_
   refine ch h rfl ?_ ?_ <;> intro h
   ·refine att 4 [] rfl ?_
    exact rt hF h
   refine att 6 [] rfl ?_
   exact lb [] [1,1] (ih2 _ h)
  refine att 6 [] rfl ?_
  exact lb [] [1] (ih1 _ h)
 refine att 5 [] rfl ?_
 exact rt hF h
theorem AU (w0:ab Ψ Φ []) (p0:bd) (p1:aG) (ph0_0:RSl be 4 Ψ pG0_0 pv0_0 p0.Alphas) (ph0_1:RSl bv 2 Ψ pG0_1 pv0_1 p0.Chains) (ph1_0:RSl dP 1 Ψ pG1_0 pv1_0 p1.Alphas) (ph1_1:RSl fx 1 Ψ pG1_1 pv1_1 p1.Rules) {r:Bool} (h:qF N p0 p1=some r) :
  CB w0 prog 77 [.agg [pv0_0,pv0_1].toArray,.agg [pv1_0,pv1_1].toArray] (.bool r):=by
 refine eN func77 rfl ntmps77 rfl w0 fun hF=>?_
 unfold qF at h
 refine sr<|lbx rfl fun b_1=>lbx rfl fun b_2=>arr 7 [0,0] rfl<|lnr ph1_0 rfl<|arr 2 [0,32] rfl<|lnr ph0_0 rfl<|arr 2 [] rfl ?_
 obtain ⟨b1,hb_1,h⟩:=bs h
 refine WL.cutN 8 [(28,.bool b1),(2,pQ b_1),(3,pQ b_2)] ?_ (fun K=>?_)
 rotate_left
 ·refine sp 20 hb_1 rfl (fun hb_1=>?_) fun hb_1=>?_
  ·refine arr 8 [] rfl ?_
   cases hb_1
   exact ku K
  ·refine arr 2 [1,0] rfl<|ly rfl rfl<|lnr ph1_1 rfl<|arr 2 [1,32] rfl<|ly rfl rfl<|lnr ph0_1 rfl<|arr 2 [] rfl ?_
   cases hb_1
   exact ku K
 refine en ?_
 refine ch h rfl ?_ ?_ <;> intro h
 ·refine att 4 [] rfl ?_
  exact rt hF h
 refine atr 6 [1,0] rfl<|lnr ph1_1 rfl<|art 3 [] rfl ?_
 refine lin (σ:=Int) (fun s=>[(2,pQ b_1),(30,pv1_1),(31,iV (p1.Rules.length:Int)),(32,iV s)]) (fun s=>St w0 Φ [(b_1,.cells #[pv0_0,pv0_1] 52 (0,0))] []) (fun m s=>bE N p0 p1 m s=some r) (0) N h (sx [] [1]) (fun n1 ih1 s hm=>?_)
 revert hm; revert s; intro s1 hm
 have h:bE N p0 p1 (n1+1) s1=some r:=hm
 show WT _ _ [(2,pQ b_1),(30,pv1_1),(31,iV (p1.Rules.length:Int)),(32,iV s1)] (St w0 Φ [(b_1,.cells #[pv0_0,pv0_1] 52 (0,0))] [])
 unfold bE at h
 refine att 5 [] rfl ?_
 refine ch h rfl ?_ ?_ <;> intro h
 ·refine atr 6 [] rfl ?_
  obtain ⟨x1,hx1,h⟩:=bs h
  obtain ⟨cs1,F1,-,g1,hb1,hs1,r1⟩:=ph1_1.el (a7 hx1).2.2
  obtain ⟨v1,G1,rfl,hq1,h1⟩:=r1
  obtain rfl:=hq1.symm
  refine lia ph1_1 hx1 rfl<|lhx 0 1 g1 rfl ?_
  refine ln (gT (C:=#[.slice none 0 0]) rb rfl) rfl (fun b_3=>?_)
  refine la rfl<|soN 0 wK rfl ⟨h1.one,trivial⟩ rfl ?_
  refine arr 6 [1,32] rfl ?_
  obtain ⟨x2,hx2,h⟩:=bs h
  obtain ⟨cs2,F2,-,g2,hb2,hs2,r2⟩:=ph0_1.el (a7 hx2).2.2
  obtain ⟨v2,G2,v3,G3,rfl,rfl,h2,h3⟩:=r2
  refine lia ph0_1 hx2 rfl<|lhx 0 2 g2 rfl<|lnz rc rfl fun b_4=>soN 0 wk rfl ⟨h2.one,h3.one,trivial⟩ rfl ?_
  refine arr 6 [0,32] rfl<|lnr h1 rfl<|arr 2 [0,0] rfl<|lnr h2 rfl<|la rfl<|en ?_
  refine ch h rfl ?_ ?_ <;> intro h
  ·refine att 4 [] rfl ?_
   exact rt hF h
  refine atr 5 [0,32] rfl<|lnr h1 rfl<|art 3 [] rfl ?_
  refine lin (σ:=Int) (fun s=>[(2,pQ b_1),(7,pQ b_4),(30,pv1_1),(31,iV (p1.Rules.length:Int)),(32,iV s1),(50,v1),(51,iV (x1.Levels.length:Int)),(52,iV s)]) (fun s=>St w0 Φ [(b_4,.cells #[v2,v3] 150 (0,0)),(b_1,.cells #[pv0_0,pv0_1] 52 (0,0))] []) (fun m s=>bS N s1 (bE N p0 p1 n1) x1 x2 m s=some r) (0) N h (sx [] [0,1]) (fun n2 ih2 s hm=>?_)
  revert hm; revert s; intro s2 hm
  have h:bS N s1 (bE N p0 p1 n1) x1 x2 (n2+1) s2=some r:=hm
  show WT _ _ [(2,pQ b_1),(7,pQ b_4),(30,pv1_1),(31,iV (p1.Rules.length:Int)),(32,iV s1),(50,v1),(51,iV (x1.Levels.length:Int)),(52,iV s2)] (St w0 Φ [(b_4,.cells #[v2,v3] 150 (0,0)),(b_1,.cells #[pv0_0,pv0_1] 52 (0,0))] [])
  unfold bS at h
  refine att 5 [] rfl ?_
  refine ch h rfl ?_ ?_ <;> intro h
  ·refine atr 6 [] rfl ?_
   obtain ⟨x3,hx3,h⟩:=bs h
   obtain ⟨cs3,F3,-,g3,hb3,hs3,r3⟩:=h1.el (a7 hx3).2.2
   obtain ⟨v4,G4,rfl,hq2,h4⟩:=r3
   obtain rfl:=hq2.symm
   refine lia h1 hx3 rfl<|lhx 0 1 g3 rfl ?_
   refine ln (gT (C:=#[.slice none 0 0]) sP rfl) rfl (fun b_5=>?_)
   refine la rfl<|soN 0 CS rfl ⟨h4.one,trivial⟩ rfl ?_
   refine arr 11 [0,32] rfl<|lnr h2 rfl<|art 3 [] rfl ?_
   refine cut (σ:=Int) (fun s=>[(2,pQ b_1),(7,pQ b_4),(8,iV s2),(9,pQ b_5),(10,iV s),(30,pv1_1),(31,iV (p1.Rules.length:Int)),(32,iV s1),(50,v1),(51,iV (x1.Levels.length:Int)),(52,iV s2)]) (fun s=>St w0 Φ [(b_5,.cells #[v4] 130 (0,0)),(b_4,.cells #[v2,v3] 150 (0,0)),(b_1,.cells #[pv0_0,pv0_1] 52 (0,0))] []) (fun s=>gJ N s2 (bS N s1 (bE N p0 p1 n1) x1 x2 n2) x3 s=some r) (fun s hm=>?_) (fun K=>?_)
   ·clear h
    revert hm; revert s; intro s3 hm
    have h:gJ N s2 (bS N s1 (bE N p0 p1 n1) x1 x2 n2) x3 s3=some r:=hm
    show WT _ _ [(2,pQ b_1),(7,pQ b_4),(8,iV s2),(9,pQ b_5),(10,iV s3),(30,pv1_1),(31,iV (p1.Rules.length:Int)),(32,iV s1),(50,v1),(51,iV (x1.Levels.length:Int)),(52,iV s2)] (St w0 Φ [(b_5,.cells #[v4] 130 (0,0)),(b_4,.cells #[v2,v3] 150 (0,0)),(b_1,.cells #[pv0_0,pv0_1] 52 (0,0))] [])
    unfold gJ at h
    refine atr 4 [0,0] rfl<|lnr h4 rfl<|art 3 [] rfl ?_
    refine lin (σ:=Int) (fun s=>[(2,pQ b_1),(7,pQ b_4),(8,iV s2),(10,iV s3),(30,pv1_1),(31,iV (p1.Rules.length:Int)),(32,iV s1),(50,v1),(51,iV (x1.Levels.length:Int)),(52,iV s2),(67,v4),(68,iV (x3.Toks.length:Int)),(69,iV s)]) (fun s=>St w0 Φ [(b_4,.cells #[v2,v3] 150 (0,0)),(b_1,.cells #[pv0_0,pv0_1] 52 (0,0))] []) (fun m s=>ep N s2 (bS N s1 (bE N p0 p1 n1) x1 x2 n2) x3 s3 m s=some r) (0) N h (sx [] [1,1]) (fun n4 ih4 s hm=>?_)
    revert hm; revert s; intro s4 hm
    have h:ep N s2 (bS N s1 (bE N p0 p1 n1) x1 x2 n2) x3 s3 (n4+1) s4=some r:=hm
    show WT _ _ [(2,pQ b_1),(7,pQ b_4),(8,iV s2),(10,iV s3),(30,pv1_1),(31,iV (p1.Rules.length:Int)),(32,iV s1),(50,v1),(51,iV (x1.Levels.length:Int)),(52,iV s2),(67,v4),(68,iV (x3.Toks.length:Int)),(69,iV s4)] (St w0 Φ [(b_4,.cells #[v2,v3] 150 (0,0)),(b_1,.cells #[pv0_0,pv0_1] 52 (0,0))] [])
    unfold ep at h
    refine att 5 [] rfl ?_
    refine ch h rfl ?_ ?_ <;> intro h
    ·refine atr 5 [] rfl ?_
     obtain ⟨x4,hx4,h⟩:=bs h
     obtain ⟨cs4,F4,-,g4,hb4,hs4,r4⟩:=h4.el (a7 hx4).2.2
     obtain ⟨v5,G5,v6,G6,rfl,rfl,h5,h6⟩:=r4
     refine lia h4 hx4 rfl<|lhx 0 2 g4 rfl<|lnz iz rfl fun b_6=>soN 0 vc rfl ⟨h5.one,h6.one,trivial⟩ rfl ?_
     refine arr 5 [0,0] rfl<|lnr h5 rfl<|arr 4 [] rfl ?_
     obtain ⟨b2,hb_2,h⟩:=bs h
     refine WL.cutN 6 [(85,.bool b2),(2,pQ b_1),(7,pQ b_4),(8,iV s2),(10,iV s3),(30,pv1_1),(31,iV (p1.Rules.length:Int)),(32,iV s1),(50,v1),(51,iV (x1.Levels.length:Int)),(52,iV s2),(67,v4),(68,iV (x3.Toks.length:Int)),(69,iV s4)] ?_ (fun K=>?_)
     rotate_left
     ·refine sp 79 hb_2 rfl (fun hb_2=>?_) fun hb_2=>?_
      ·refine arr 6 [] rfl ?_
       cases hb_2
       exact ku K
      ·refine arr 2 [1,0] rfl<|ly rfl rfl<|lnr h6 rfl<|arr 3 [] rfl ?_
       cases hb_2
       exact ku K
     refine en ?_
     refine ch h rfl ?_ ?_ <;> intro h
     ·refine att 4 [] rfl ?_
      exact rt hF h
     refine att 6 [] rfl ?_
     exact lb [] [1,1] (ih4 _ h)
    refine att 6 [] rfl ?_
    exact lb [] [0,0] (ih2 _ h)
   refine ch h rfl ?_ ?_ <;> intro h
   ·refine atr 3 [1,32] rfl<|lnr h3 rfl<|la rfl<|en ?_
    exact wo [] [0,0,0] (K _ h)
   refine WT.skip ?_
   exact wo [] [0,0,0] (K _ h)
  refine att 6 [] rfl ?_
  exact lb [] [1] (ih1 _ h)
 refine att 5 [] rfl ?_
 exact rt hF h
theorem pV (w0:ab Ψ Φ []) (p0:(List aE)) (ph0:RSl av 3 Ψ pG0 pv0 p0) {r:(List aE)} (h:f9 N p0=some r) :
  Calls prog 180 [pv0].toArray w0.w (aL Φ w0.w [] (fun Φ' Fs v=>∃ (sr_0_0:Value),v=sr_0_0∧Fs=[ob sr_0_0]∧OSl av 225 3 Φ' [] sr_0_0 r)):=by
 refine eN func180 rfl ntmps180 rfl w0 fun hF=>?_
 unfold f9 at h
 refine att 6 [] rfl ?_
 rcases RSl.nilOr ph0 with ⟨hxs1,cc1,hv1⟩ | ⟨a1,cc1,hv1⟩
 ·replace h:some []=some r:=by simpa [hxs1,app] using h
  refine atr 2 [] rfl<|lq (ud hU (congrArg some hv1) rfl) rfl<|en ?_
  refine cd rfl (fun c=>?_) (fun c=>by simp at c)
  refine att 4 [] rfl ?_
  refine WT.ret hF (ao.one rfl) (fun w1 hw=>?_)
  cases h
  replace hw:=hw.addNil
  refine ce (js:=[0]) hw rfl ⟨.slice none 0 0,rfl,rfl,OSl.nil _ _ _ _⟩
 refine atr 2 [] rfl<|lq (ud hU (congrArg some hv1) rfl) rfl<|en ?_
 refine cd rfl (fun c=>by simp at c) (fun c=>?_)
 refine atr 3 [] rfl<|le' (ju av.lasts hU jk rfl rfl) rfl ?_
 rintro v1 Φ_1 D1 ⟨fr1,h1⟩
 refine la rfl<|lu0 ph0 fun h2=>?_
 obtain ⟨x1,hx1,h⟩:=bs h
 refine le' (dV av.lasts av.one av.flat hU De rfl rfl rfl rfl rfl (js:=[0]) (Rr:=[]) rfl h1 h2 hx1) rfl ?_
 rintro v2 Φ_2 D2 ⟨⟨ap1,fr2⟩,h3⟩
 refine la rfl<|en ?_
 exact rtg [0] hF (ao.one rfl) rfl (by cases h; exact fun w1 hw=>⟨v2,rfl,rfl,h3⟩)
theorem xu (w0:ab Ψ Φ []) (p0:aA) (ph0_0:RSl av 3 Ψ pG0_0 pv0_0 p0.Fields) {r:aA} (h:mA N p0=some r) :
  Calls prog 135 [.agg [.string p0.Kind,pv0_0].toArray].toArray w0.w (aL Φ w0.w [] (fun Φ' Fs v=>∃ (sr_0_0:Value),v = .agg [.string r.Kind,sr_0_0].toArray∧Fs=[ob sr_0_0]∧OSl av 225 3 Φ' [] sr_0_0 r.Fields)):=by
 refine eN func135 rfl ntmps135 rfl w0 fun hF=>?_
 unfold mA at h
 refine sr<|lbx rfl fun b_1=>lnz kh rfl fun b_2=>en<|sq<|wm [0,1] [6] rfl<|amm 4 [0,0,1,32,2,1,3,32] [0,1] rfl rfl ?_
 obtain ⟨x1,hx1,h⟩:=bs h
 refine WM.one 4 (by kernel_rfl) (mc rfl (fun _ v Φx D w1 hq hw=>Kn.of Kf.nil (ai2 0 1 rfl rfl) hw) (aU (js:=[]) (R:=[]) JB rfl rfl (fun w1 hw ap hl=>pV N (ba hw.fro) p0.Fields (ph0_0.y hw.up)  hx1)) rfl ?_)
 rintro v1 Φ_1 F1 ⟨ap1,fr1,v2,rfl,rfl,h1⟩
 refine mq 5 rfl (by kernel_rfl) (kN [0,1]) (cG (vs:=[(0,.string p0.Kind),(1,v1)]) (C:=#[.string p0.Kind,v1]) Gh kh rfl (ag (C':=[.string p0.Kind,.slice none 0 0]) rfl rfl rfl rfl rfl (ag (C':=[.string p0.Kind,v1]) rfl (cJ h1.one) rfl rfl rfl (aq)))) rfl ?_
 refine on1 6 (msN 0 rfl nk kY rfl ⟨rfl,h1.one,trivial⟩ rfl rfl ?_)
 refine WM.nil (by kernel_rfl) ?_
 exact rtg [0] hF (ao.one (bB rM rfl (fun w1 hw=>hw.rgO (i:=0) rfl 0 2 [.string p0.Kind,v1] rfl) rfl)) rfl (by cases h; exact fun w1 hw=>⟨v1,rfl,rfl,h1⟩)
theorem rN (w0:ab Ψ Φ []) (p0:ah) (p1:Int) (ph0_0:RSl bN 3 Ψ pG0_0 pv0_0 p0.Items) {r:aA × Bool} (h:kV N p0 p1=some r) :
  Calls prog 78 [.agg [pv0_0,iV p0.Next].toArray,iV p1].toArray w0.w (aL Φ w0.w [] (fun Φ' Fs v=>∃ (sr_0_0:Value),v = .tuple #[.agg [.string r.1.Kind,sr_0_0].toArray,.bool r.2]∧Fs=[ob sr_0_0]∧OSl av 225 3 Φ' [] sr_0_0 r.1.Fields)):=by
 refine eN func78 rfl ntmps78 rfl w0 fun hF=>?_
 unfold kV at h
 refine sr<|lbx rfl fun b_1=>lnz kh rfl fun b_2=>arr 7 [0,32] rfl<|lnr ph0_0 rfl<|art 3 [] rfl ?_
 refine lin (σ:=Int) (fun s=>[(1,iV p1),(4,pQ b_2),(9,pv0_0),(10,iV (p0.Items.length:Int)),(11,iV s)]) (fun s=>St w0 Φ [(b_2,.cells #[.string (⟨#[]⟩:ByteArray),.slice none 0 0] 133 (0,0))] []) (fun m s=>fM N p0 p1 m s=some r) (0) N h (sx [] [0]) (fun n1 ih1 s hm=>?_)
 revert hm; revert s; intro s1 hm
 have h:fM N p0 p1 (n1+1) s1=some r:=hm
 show WT _ _ [(1,iV p1),(4,pQ b_2),(9,pv0_0),(10,iV (p0.Items.length:Int)),(11,iV s1)] (St w0 Φ [(b_2,.cells #[.string (⟨#[]⟩:ByteArray),.slice none 0 0] 133 (0,0))] [])
 unfold fM at h
 refine att 5 [] rfl ?_
 refine ch h rfl ?_ ?_ <;> intro h
 ·refine atr 5 [] rfl ?_
  obtain ⟨x1,hx1,h⟩:=bs h
  obtain ⟨cs1,F1,-,g1,hb1,hs1,r1⟩:=ph0_0.el (a7 hx1).2.2
  obtain ⟨v1,G1,rfl,hq1,h1⟩:=r1
  obtain rfl:=hq1.symm
  refine lia ph0_0 hx1 rfl<|lhx 0 3 g1 rfl<|lnz vd rfl fun b_3=>soN 0 wS rfl ⟨rfl,rfl,h1.one,trivial⟩ rfl ?_
  refine art 8 [0,0] rfl ?_
  refine ch h rfl ?_ ?_ <;> intro h
  ·refine atr 4 [1,2] rfl<|kab h rfl rfl rfl (fun b z q=>xu N b x1.F (h1.y z) q) ?_
   rintro x2 h v2 Φ_1 F2 ⟨ap1,fr1,v3,rfl,rfl,h2⟩
   refine soN 1 kY rfl ⟨rfl,h2.one,trivial⟩ rfl ?_
   refine la rfl<|en ?_
   exact rtg [0] hF (ao.two (bB rM rfl (fun w1 hw=>hw.rgO (i:=1) rfl 0 2 [.string x2.Kind,v3] rfl) rfl) rfl) rfl (by cases h; exact fun w1 hw=>⟨v3,rfl,rfl,h2⟩)
  refine att 6 [] rfl ?_
  exact lb [] [1] (ih1 _ h)
 refine xt rfl<|sr<|lq (cG (vs:=[]) (C:=#[.string (⟨#[]⟩:ByteArray),.slice none 0 0]) Gh kh rfl (aq)) rfl<|soN 0 kY rfl ⟨rfl,rfl,trivial⟩ rfl ?_
 refine la rfl<|en ?_
 refine WT.ret hF (ao.two (bB rM rfl (fun w1 hw=>hw.rgO (i:=0) rfl 0 2 [.string (⟨#[]⟩:ByteArray),.slice none 0 0] rfl) rfl) rfl) (fun w1 hw=>?_)
 cases h
 replace hw:=hw.addNil
 refine ce (js:=[0]) hw rfl ⟨.slice none 0 0,rfl,rfl,OSl.nil _ _ _ _⟩
theorem AF (w0:ab Ψ Φ []) (p0:bl) (p1:bd) (p2:aG) (p3:ah) (p4:Int) (ph0_0:RSl bU 5 Ψ pG0_0 pv0_0 p0.Rules) (ph1_0:RSl be 4 Ψ pG1_0 pv1_0 p1.Alphas) (ph1_1:RSl bv 2 Ψ pG1_1 pv1_1 p1.Chains) (ph2_0:RSl dP 1 Ψ pG2_0 pv2_0 p2.Alphas) (ph2_1:RSl fx 1 Ψ pG2_1 pv2_1 p2.Rules) (ph3_0:RSl bN 3 Ψ pG3_0 pv3_0 p3.Items) {r:Bool} (h:qM N p0 p1 p2 p3 p4=some r) :
  CB w0 prog 39 [.agg [.string p0.Name,pv0_0].toArray,.agg [pv1_0,pv1_1].toArray,.agg [pv2_0,pv2_1].toArray,.agg [pv3_0,iV p3.Next].toArray,iV p4] (.bool r):=by
 refine eN func39 rfl ntmps39 rfl w0 fun hF=>?_
 unfold qM at h
 refine sr<|lbx rfl fun b_1=>lbx rfl fun b_2=>lbx rfl fun b_3=>lbx rfl fun b_4=>arr 7 [66,98] rfl<|qd h (E8 N · p1 p0 ph1_0 ph1_1 ph0_0 ·) rfl rfl rfl fun x1 h=>arr 2 [] rfl ?_
 obtain ⟨b1,hb_1,h⟩:=bs h
 refine WL.cutN 4 [(21,.bool b1),(4,iV p4),(6,pQ b_2),(7,pQ b_3),(8,pQ b_4)] ?_ (fun K=>?_)
 rotate_left
 ·refine sp 17 hb_1 rfl (fun hb_1=>?_) fun hb_1=>?_
  ·refine arr 4 [] rfl ?_
   cases hb_1
   exact ku K
  ·refine ly rfl rfl<|ld2 Cp 0 rfl<|ly rfl rfl<|qd hb_1 (yq N · p3 ph3_0 ·) rfl rfl rfl fun x2 hb_1=>arr 2 [] rfl ?_
   cases hb_1
   exact ku K
 refine la rfl ?_
 obtain ⟨b2,hb_2,h⟩:=bs h
 refine WL.cutN 5 [(27,.bool b2),(4,iV p4),(8,pQ b_4)] ?_ (fun K=>?_)
 rotate_left
 ·refine sp 22 hb_2 rfl (fun hb_2=>?_) fun hb_2=>?_
  ·refine arr 5 [] rfl ?_
   cases hb_2
   exact ku K
  ·refine arr 2 [66,34] rfl<|ly rfl rfl<|qd hb_2 (AU N · p1 p2 ph1_0 ph1_1 ph2_0 ph2_1 ·) rfl rfl rfl fun x3 hb_2=>arr 2 [] rfl ?_
   cases hb_2
   exact ku K
 refine en ?_
 refine ch h rfl ?_ ?_ <;> intro h
 ·refine att 4 [] rfl ?_
  exact rt hF h
 refine atr 5 [2] rfl<|kab h rfl rfl rfl (fun b z q=>rN N b p3 p4 (ph3_0.y z) q) ?_
 rintro x4 h v1 Φ_1 F1 ⟨ap1,fr1,v2,rfl,rfl,h1⟩
 refine arr 3 [] rfl<|lnz kh rfl fun b_5=>soN 0 kY rfl ⟨rfl,h1.one,trivial⟩ rfl ?_
 refine art 7 [] rfl ?_
 exact rt hF h
theorem uO (w0:ab Ψ Φ []) (p0:Int) (c0:Int) (ppc0:Ψ pbc0=some (.cells #[iV c0] 3 (0,0))) {r:Bool} (h:iH N p0 c0=some r) :
  CB w0 prog 79 [iV p0,pQ pbc0] (.bool r):=by
 refine eN func79 rfl ntmps79 rfl w0 fun hF=>?_
 unfold iH at h
 refine atr 7 [] rfl<|lhx 0 0 (g9 ppc0) rfl<|art 3 [] rfl ?_
 exact rt hF h
theorem qW {p1f:Nat} {p1fr:List Value} (w0:ab Ψ Φ []) (p0:(List Int)) (p1:Int→Option (Bool)) (ph0:RSl (RI .i64) 1 Ψ pG0 pv0 p0) (p1hF:Fun prog p1f=true) (p1h:∀ {Φ':Hp} {w':World},FrH [] Φ Φ'→In Φ' w'→∀ (p1a0:Int)   {r:Bool},p1 p1a0=some r→Calls prog p1f (([iV p1a0]:List Value)++p1fr).toArray w' (rR (.bool r) w')) {r:Int} (h:fa N p0 p1=some r) :
  CB w0 prog 136 [pv0,.func (.func p1f) #[] p1fr.toArray] (iV r):=by
 refine eN func136 rfl ntmps136 rfl w0 fun hF=>?_
 unfold fa at h
 refine atr 8 [] rfl<|lnr ph0 rfl<|art 3 [] rfl ?_
 refine lin (σ:=Int) (fun s=>[(0,pv0),(1,.func (.func p1f) #[] p1fr.toArray),(7,iV (p0.length:Int)),(8,iV s)]) (fun s=>St w0 Φ [] []) (fun m s=>bo N p0 p1 m s=some r) (0) N h (sx [] []) (fun n1 ih1 s hm=>?_)
 revert hm; revert s; intro s1 hm
 have h:bo N p0 p1 (n1+1) s1=some r:=hm
 show WT _ _ [(0,pv0),(1,.func (.func p1f) #[] p1fr.toArray),(7,iV (p0.length:Int)),(8,iV s1)] (St w0 Φ [] [])
 unfold bo at h
 refine att 5 [] rfl ?_
 refine ch h rfl ?_ ?_ <;> intro h
 ·refine atr 13 [] rfl ?_
  obtain ⟨x1,hx1,h⟩:=bs h
  obtain ⟨cs1,F1,-,g1,hb1,hs1,r1⟩:=ph0.el (a7 hx1).2.2
  obtain ⟨rfl,-⟩:=r1
  refine lia ph0 hx1 rfl<|lhx 0 0 g1 rfl ?_
  obtain ⟨x2,hx2,h⟩:=bs h
  refine lp (sN p1hF rfl rfl (fun w1 hw=>p1h hw.frB hw.fro x1 hx2)) rfl<|en ?_
  refine ch h rfl ?_ ?_ <;> intro h
  ·refine att 5 [] rfl ?_
   exact rt hF h
  refine att 6 [] rfl ?_
  exact lb [] [] (ih1 _ h)
 refine att 5 [] rfl ?_
 exact rt hF h
theorem oU {p1f:Nat} {p1fr:List Value} (w0:ab Ψ Φ [ob pv0].flatten) (p0:(List Int)) (p1:Int→Option (Bool)) (ph0:OSl (RI .i64) 3 1 Φ [] pv0 p0) (p1hF:Fun prog p1f=true) (p1h:∀ {Φ':Hp} {w':World},FrH [ob pv0].flatten Φ Φ'→In Φ' w'→∀ (p1a0:Int)   {r:Bool},p1 p1a0=some r→Calls prog p1f (([iV p1a0]:List Value)++p1fr).toArray w' (rR (.bool r) w')) {r:(List Int)} (h:cN N p0 p1=some r) :
  Calls prog 80 [pv0,.func (.func p1f) #[] p1fr.toArray].toArray w0.w (aL Φ w0.w [ob pv0].flatten (fun Φ' Fs v=>∃ (sr_0_0:Value),v=sr_0_0∧Fs=[ob sr_0_0]∧OSl (RI .i64) 3 1 Φ' [] sr_0_0 r)):=by
 refine eL func80 rfl ntmps80 rfl (L:=[ob pv0]) w0 (fun hF=>?_)
 unfold cN at h
 obtain ⟨_,hlen,h⟩:=bs h
 replace hlen:=zz hlen
 refine atr 8 [] rfl ?_
 obtain ⟨x1,hx1,h⟩:=bs h
 refine lp (bM IX rfl (fun w1 hw=>qW N (ba hw.fro) p0 p1 ph0.rsl p1hF (fun hle'=>p1h (hw.frX (Ap.none _ _ []) hle')) hx1)) rfl<|art 8 [] rfl ?_
 refine ch h rfl ?_ ?_ <;> intro h
 ·refine att 5 [] rfl ?_
  exact rtg [0] hF (ao.one rfl) rfl (by cases h; exact fun w1 hw=>⟨pv0,rfl,rfl,ph0⟩)
 obtain ⟨x2,hx2,h⟩:=bs h
 obtain ⟨t,ht,h⟩:=bs h
 replace h:=Option.some.inj h
 obtain ⟨D1,gh,sp0⟩:=ph0.gap hx2
 obtain ⟨i0,i1,-⟩:=a7 hx2
 replace sp0:=SP.is_nil sp0
 refine att 9 [] rfl ?_
 refine Dc (σ:=Hp × (List Int) × (List Int) × List Nat × Int × Int) (fun s=>[(0,pv0),(1,.func (.func p1f) #[] p1fr.toArray),(5,iV s.2.2.2.2.1),(6,iV s.2.2.2.2.2)]) (fun s=>St w0 s.1 [] [ob pv0]) (fun m s=>s.2.2.1.length < m∧(∃ t,zC p1 s.2.2.1=some t∧s.2.1++t=r)∧GSl (RI .i64) 3 1 s.1 s.2.2.2.1 pv0 p0.length s.2.1 s.2.2.1∧s.2.2.2.1=[]∧s.2.2.2.2.1=(s.2.1.length:Int)∧s.2.2.2.2.2+(s.2.2.1.length:Int)=(p0.length:Int)∧s.2.1.length+s.2.2.1.length < p0.length) (Φ,p0.take x1.toNat,p0.drop (x1.toNat+1),D1,x1,wz (x1+1)) (p0.length+1) ⟨by simp; omega,⟨t,ht,h⟩,gh,sp0,by simp; omega,Ha i0 (by omega) (by simp; omega),by simp; omega⟩ ⟨rfl,rfl,rfl,rfl,trivial⟩ (fun w1 hw=>hw) (fun s hm=>Nat.not_lt_zero _ hm.1) (fun n1 ih1 s hm=>?_)
 obtain ⟨Φ_1,ys,zs,D2,si,sj⟩:=s
 obtain ⟨hm0,⟨t1,ht1,hr1⟩,gh1,sp1,e1,e2,lt1⟩:=hm
 dsimp only at hm0 ht1 hr1 gh1 sp1 e1 e2 lt1
 show WT _ _ [(0,pv0),(1,.func (.func p1f) #[] p1fr.toArray),(5,iV si),(6,iV sj)] (St w0 Φ_1 [] [ob pv0])
 refine atr 5 [] rfl<|lq (Ij bg rfl rfl gh1.form) rfl<|la rfl<|en ?_
 refine cd rfl (fun c2=>?_) (fun c2=>?_)
 ·replace c2:=of_decide_eq_true c2
  obtain ⟨z,zs',rfl⟩:∃ z zs',zs=z :: zs':=by cases zs with | nil=>simp at e2; omega | cons z zs'=>exact ⟨z,zs',rfl⟩
  simp only [List.length_cons] at e2 lt1 hm0
  obtain ⟨cs1,F1,D3,hl1,g1,hb1,r1,kF1,gh2,sp2⟩:=gh1.next
  rw [show p0.length - (zs'.length+1)=sj.toNat by omega] at g1
  simp only [zC] at ht1
  obtain ⟨b,hb,ht1⟩:=bs ht1
  obtain ⟨t2,ht2,ht1⟩:=bs ht1
  replace ht1:=Option.some.inj ht1
  refine att 4 [] rfl ?_
  obtain ⟨rfl,hF1⟩:=r1
  subst hF1
  refine atr 3 [] rfl<|lq (oV bg rfl rfl gh1 (by omega) (by omega)) rfl<|lgx 0 0 g1 rfl<|arr 6 [] rfl<|lp (sN p1hF rfl rfl (fun w1 hw=>p1h hw.frB hw.fro z hb)) rfl<|la rfl<|en ?_
  refine cd rfl (fun c3=>?_) (fun c3=>?_)
  ·have hbf:b=false:=by simpa using c3
   subst hbf
   refine atr 5 [] rfl<|lq (oV bg rfl rfl gh1 (by omega) (by omega)) rfl ?_
   have d3:D3=[]:=SP.is_nil (sp1 ▸ (SP.right _ _).trans sp2)
   subst d3
   refine lu (K6 (js:=[0]) (Rr:=[]) (vs:=[iV z]) RI.lasts iE rfl rfl rfl rfl ⟨rfl,trivial⟩ rfl gh2 (by omega) (by omega) (show RI .i64 Φ_1 [] [iV z] z from ⟨rfl,rfl⟩) kF1 (fun ap=>Dj.nil _) (fun ap=>Dj.nil _)) rfl ?_
   rintro Φ_2 D4 ⟨⟨ap1,fr1⟩,sp3,gh3⟩
   have d4:D4=[]:=SP.is_nil (by simpa using sp3)
   subst d4
   refine art 12 [] rfl ?_
   exact EI (ih1 (Φ_2,ys++[z],zs',([]:List Nat),wz (si+1),wz (sj+1)) ⟨by show zs'.length < n1; omega,⟨t2,ht2,by rw [← hr1,← ht1]; simp⟩,gh3,rfl,MT (by omega) (by omega) (by simp; omega),Ha (by omega) (by omega) (by show sj+1+(zs'.length:Int)=_; omega),by show (ys++[z]).length+zs'.length < _; simp; omega⟩) ⟨rfl,rfl,rfl,rfl,trivial⟩ (fun w1 hw=>hw)
  have hbt:b=true:=by simpa using c3
  subst hbt
  refine att 7 [] rfl ?_
  exact EI (ih1 (Φ_1,ys,zs',D3,si,wz (sj+1)) ⟨by show zs'.length < n1; omega,⟨t2,ht2,by rw [← hr1,← ht1]; rfl⟩,gh2,SP.is_nil (sp1 ▸ (SP.right _ _).trans sp2),e1,Ha (by omega) (by omega) (by show sj+1+(zs'.length:Int)=_; omega),by show ys.length+zs'.length < _; omega⟩) ⟨rfl,rfl,rfl,rfl,trivial⟩ (fun w1 hw=>hw)
 replace c2:=of_decide_eq_false c2
 have hz0:zs=[]:=List.length_eq_zero_iff.1 (by omega)
 subst hz0
 simp only [List.length_nil,Nat.add_zero] at lt1 e2
 have ht0:t1=[]:=by simpa [zC] using ht1.symm
 subst ht0
 rw [List.append_nil] at hr1
 subst hr1
 have esi:si.toNat=ys.length:=by omega
 refine atr 5 [] rfl<|lq (HX bg rfl rfl gh1 (by omega) (by omega)) rfl<|leU (Gz (i:=si.toNat) (js:=[0]) (Rr:=[]) RI.lasts bg sW rfl rfl rfl rfl rfl gh1 esi lt1 (fun ap=>by rw [sp1]; exact Dj.nil _)) rfl ?_
 rintro v Φ_2 D4 ⟨⟨ap1,fr1⟩,gh3⟩
 refine arr 5 [] rfl<|lq (Hw bg rfl rfl gh3 (by omega) (by omega)) rfl<|la rfl<|en ?_
 obtain ⟨hd1,hd2⟩:=gh3.done
 rw [← esi] at hd1 hd2
 refine WT.ret hF (ao.one rfl) (fun w1 hw=>?_)
 subst sp1
 refine ce (js:=[0]) hw rfl ⟨slc pv0 0 si.toNat 1,rfl,by rw [hd2],hd1⟩
theorem nD {p1f:Nat} {p1fr:List Value} (w0:ab Ψ Φ []) (p0:(List ak)) (p1:ak→Option (Bool)) (ph0:RSl ic 2 Ψ pG0 pv0 p0) (p1hF:Fun prog p1f=true) (p1h:∀ {Φ':Hp} {w':World},FrH [] Φ Φ'→In Φ' w'→∀ (p1a0:ak) {p1v0_0:Value} {p1G0_0:List Nat} {p1v0_1:Value} {p1G0_1:List Nat} (_:RSl (RI .i64) 1 Φ' p1G0_0 p1v0_0 p1a0.Ids) (_:RSl (RI .i64) 1 Φ' p1G0_1 p1v0_1 p1a0.Hits) {r:Bool},p1 p1a0=some r→Calls prog p1f (([.agg [p1v0_0,p1v0_1].toArray]:List Value)++p1fr).toArray w' (rR (.bool r) w')) {r:Int} (h:da N p0 p1=some r) :
  CB w0 prog 137 [pv0,.func (.func p1f) #[] p1fr.toArray] (iV r):=by
 refine eN func137 rfl ntmps137 rfl w0 fun hF=>?_
 unfold da at h
 refine atr 8 [] rfl<|lnr ph0 rfl<|art 3 [] rfl ?_
 refine lin (σ:=Int) (fun s=>[(0,pv0),(1,.func (.func p1f) #[] p1fr.toArray),(7,iV (p0.length:Int)),(8,iV s)]) (fun s=>St w0 Φ [] []) (fun m s=>bb N p0 p1 m s=some r) (0) N h (sx [] []) (fun n1 ih1 s hm=>?_)
 revert hm; revert s; intro s1 hm
 have h:bb N p0 p1 (n1+1) s1=some r:=hm
 show WT _ _ [(0,pv0),(1,.func (.func p1f) #[] p1fr.toArray),(7,iV (p0.length:Int)),(8,iV s1)] (St w0 Φ [] [])
 unfold bb at h
 refine att 5 [] rfl ?_
 refine ch h rfl ?_ ?_ <;> intro h
 ·refine atr 13 [] rfl ?_
  obtain ⟨x1,hx1,h⟩:=bs h
  obtain ⟨cs1,F1,-,g1,hb1,hs1,r1⟩:=ph0.el (a7 hx1).2.2
  obtain ⟨v1,G1,v2,G2,rfl,rfl,h1,h2⟩:=r1
  refine lia ph0 hx1 rfl<|lhx 0 2 g1 rfl ?_
  obtain ⟨x2,hx2,h⟩:=bs h
  refine lp (sN p1hF rfl rfl (fun w1 hw=>p1h hw.frB hw.fro x1 (h1.y hw.up) (h2.y hw.up) hx2)) rfl<|en ?_
  refine ch h rfl ?_ ?_ <;> intro h
  ·refine att 5 [] rfl ?_
   exact rt hF h
  refine att 6 [] rfl ?_
  exact lb [] [] (ih1 _ h)
 refine att 5 [] rfl ?_
 exact rt hF h
theorem mS {p1f:Nat} {p1fr:List Value} (w0:ab Ψ Φ [ob pv0,pD0].flatten) (p0:(List ak)) (p1:ak→Option (Bool)) (ph0:OSl aO 159 2 Φ pD0 pv0 p0) (p1hF:Fun prog p1f=true) (p1h:∀ {Φ':Hp} {w':World},FrH [ob pv0,pD0].flatten Φ Φ'→In Φ' w'→∀ (p1a0:ak) {p1v0_0:Value} {p1G0_0:List Nat} {p1v0_1:Value} {p1G0_1:List Nat} (_:RSl (RI .i64) 1 Φ' p1G0_0 p1v0_0 p1a0.Ids) (_:RSl (RI .i64) 1 Φ' p1G0_1 p1v0_1 p1a0.Hits) {r:Bool},p1 p1a0=some r→Calls prog p1f (([.agg [p1v0_0,p1v0_1].toArray]:List Value)++p1fr).toArray w' (rR (.bool r) w')) {r:(List ak)} (h:bY N p0 p1=some r) :
  Calls prog 81 [pv0,.func (.func p1f) #[] p1fr.toArray].toArray w0.w (aL Φ w0.w [ob pv0,pD0].flatten (fun Φ' Fs v=>∃ (sr_0_0:Value) (Dr_0_0:List Nat),v=sr_0_0∧Fs=[ob sr_0_0,Dr_0_0]∧OSl aO 159 2 Φ' Dr_0_0 sr_0_0 r)):=by
 refine eL func81 rfl ntmps81 rfl (L:=[ob pv0,pD0]) w0 (fun hF=>?_)
 unfold bY at h
 obtain ⟨_,hlen,h⟩:=bs h
 replace hlen:=zz hlen
 refine atr 8 [] rfl ?_
 obtain ⟨x1,hx1,h⟩:=bs h
 refine lp (bM Jv rfl (fun w1 hw=>nD N (ba hw.fro) p0 p1 (ph0.rslG aO.gives) p1hF (fun hle'=>p1h (hw.frX (Ap.none _ _ []) hle')) hx1)) rfl<|art 8 [] rfl ?_
 refine ch h rfl ?_ ?_ <;> intro h
 ·refine att 5 [] rfl ?_
  exact rtg [0,0] hF (ao.one rfl) rfl (by cases h; exact fun w1 hw=>⟨pv0,pD0,rfl,rfl,ph0⟩)
 obtain ⟨x2,hx2,h⟩:=bs h
 obtain ⟨t,ht,h⟩:=bs h
 replace h:=Option.some.inj h
 obtain ⟨D1,gh,sp0⟩:=ph0.gap hx2
 obtain ⟨i0,i1,-⟩:=a7 hx2
 refine att 9 [] rfl ?_
 refine Dc (σ:=Hp × (List ak) × (List ak) × List Nat × Int × Int) (fun s=>[(0,pv0),(1,.func (.func p1f) #[] p1fr.toArray),(5,iV s.2.2.2.2.1),(6,iV s.2.2.2.2.2)]) (fun s=>St w0 s.1 [] [s.2.2.2.1,ob pv0]) (fun m s=>s.2.2.1.length < m∧(∃ t,zC p1 s.2.2.1=some t∧s.2.1++t=r)∧GSl aO 159 2 s.1 s.2.2.2.1 pv0 p0.length s.2.1 s.2.2.1∧SP s.2.2.2.1 pD0∧s.2.2.2.2.1=(s.2.1.length:Int)∧s.2.2.2.2.2+(s.2.2.1.length:Int)=(p0.length:Int)∧s.2.1.length+s.2.2.1.length < p0.length) (Φ,p0.take x1.toNat,p0.drop (x1.toNat+1),D1,x1,wz (x1+1)) (p0.length+1) ⟨by simp; omega,⟨t,ht,h⟩,gh,sp0,by simp; omega,Ha i0 (by omega) (by simp; omega),by simp; omega⟩ ⟨rfl,rfl,rfl,rfl,trivial⟩ (fun w1 hw=>hw.merge (js:=[1]) (F:=D1) rfl (by simpa using sp0)) (fun s hm=>Nat.not_lt_zero _ hm.1) (fun n1 ih1 s hm=>?_)
 obtain ⟨Φ_1,ys,zs,D2,si,sj⟩:=s
 obtain ⟨hm0,⟨t1,ht1,hr1⟩,gh1,sp1,e1,e2,lt1⟩:=hm
 dsimp only at hm0 ht1 hr1 gh1 sp1 e1 e2 lt1
 show WT _ _ [(0,pv0),(1,.func (.func p1f) #[] p1fr.toArray),(5,iV si),(6,iV sj)] (St w0 Φ_1 [] [D2,ob pv0])
 refine atr 5 [] rfl<|lq (Ij dU rfl rfl gh1.form) rfl<|la rfl<|en ?_
 refine cd rfl (fun c2=>?_) (fun c2=>?_)
 ·replace c2:=of_decide_eq_true c2
  obtain ⟨z,zs',rfl⟩:∃ z zs',zs=z :: zs':=by cases zs with | nil=>simp at e2; omega | cons z zs'=>exact ⟨z,zs',rfl⟩
  simp only [List.length_cons] at e2 lt1 hm0
  obtain ⟨cs1,F1,D3,hl1,g1,hb1,r1,kF1,gh2,sp2⟩:=gh1.next
  rw [show p0.length - (zs'.length+1)=sj.toNat by omega] at g1
  simp only [zC] at ht1
  obtain ⟨b,hb,ht1⟩:=bs ht1
  obtain ⟨t2,ht2,ht1⟩:=bs ht1
  replace ht1:=Option.some.inj ht1
  refine att 4 [] rfl ?_
  obtain ⟨v1,v2,rfl,rfl,h1,h2⟩:=r1
  refine atr 3 [] rfl<|lq (oV dU rfl rfl gh1 (by omega) (by omega)) rfl<|lgx 0 2 g1 rfl<|lnz iz rfl fun b_1=>soN 0 vc rfl ⟨h1.one,h2.one,trivial⟩ rfl ?_
  refine arr 5 [2] rfl<|lp (sN p1hF rfl rfl (fun w1 hw=>p1h hw.frB hw.fro z h1.rsl h2.rsl hb)) rfl<|la rfl<|en ?_
  refine cd rfl (fun c3=>?_) (fun c3=>?_)
  ·have hbf:b=false:=by simpa using c3
   subst hbf
   refine atr 5 [2] rfl<|lq (oV dU rfl rfl gh1 (by omega) (by omega)) rfl<|lu (K6 (js:=[1]) (Rr:=[D2]) (vs:=[v1,v2]) aO.lasts vc rfl rfl rfl rfl ⟨h1.one,h2.one,trivial⟩ rfl gh2 (by omega) (by omega) (⟨v1,v2,rfl,rfl,h1,h2⟩:aO Φ_1 _ [v1,v2] z) kF1 (fun ap=>Dj.sub (ap.q 0 rfl) (fun k hk=>sp2.mem (List.mem_append.2 (.inr hk)))) (fun ap=>Dj.sub (ap.q 0 rfl) (fun k hk=>sp2.mem (List.mem_append.2 (.inl hk))))) rfl ?_
   rintro Φ_2 D4 ⟨⟨ap1,fr1⟩,sp3,gh3⟩
   refine WL.conv (S':=St w0 Φ_2 [(b_1,.cells #[v1,v2] 159 (0,0))] [D4,ob pv0]) (fun w1 hw=>hw.merge (js:=[1]) (F:=D4) rfl (by simpa using sp3.trans sp2))<|art 12 [] rfl ?_
   exact EI (ih1 (Φ_2,ys++[z],zs',D4,wz (si+1),wz (sj+1)) ⟨by show zs'.length < n1; omega,⟨t2,ht2,by rw [← hr1,← ht1]; simp⟩,gh3,(sp3.trans sp2).trans sp1,MT (by omega) (by omega) (by simp; omega),Ha (by omega) (by omega) (by show sj+1+(zs'.length:Int)=_; omega),by show (ys++[z]).length+zs'.length < _; simp; omega⟩) ⟨rfl,rfl,rfl,rfl,trivial⟩ (fun w1 hw=>hw.selO (js:=[]) rfl)
  have hbt:b=true:=by simpa using c3
  subst hbt
  refine att 7 [] rfl ?_
  exact EI (ih1 (Φ_1,ys,zs',D3,si,wz (sj+1)) ⟨by show zs'.length < n1; omega,⟨t2,ht2,by rw [← hr1,← ht1]; rfl⟩,gh2,((SP.right _ _).trans sp2).trans sp1,e1,Ha (by omega) (by omega) (by show sj+1+(zs'.length:Int)=_; omega),by show ys.length+zs'.length < _; omega⟩) ⟨rfl,rfl,rfl,rfl,trivial⟩ (fun w1 hw=>(hw.merge (js:=[0]) (F:=D3) rfl (by simpa using (SP.right _ _).trans sp2)).selO (js:=[]) rfl)
 replace c2:=of_decide_eq_false c2
 have hz0:zs=[]:=List.length_eq_zero_iff.1 (by omega)
 subst hz0
 simp only [List.length_nil,Nat.add_zero] at lt1 e2
 have ht0:t1=[]:=by simpa [zC] using ht1.symm
 subst ht0
 rw [List.append_nil] at hr1
 subst hr1
 have esi:si.toNat=ys.length:=by omega
 refine atr 5 [] rfl<|lq (HX dU rfl rfl gh1 (by omega) (by omega)) rfl<|leU (Gz (i:=si.toNat) (js:=[1]) (Rr:=[D2]) aO.lasts dU iz rfl rfl rfl rfl rfl gh1 esi lt1 (fun ap=>ap.r (i:=0) rfl)) rfl ?_
 rintro v Φ_2 D4 ⟨⟨ap1,fr1⟩,gh3⟩
 refine arr 5 [] rfl<|lq (Hw dU rfl rfl gh3 (by omega) (by omega)) rfl<|la rfl<|en ?_
 obtain ⟨hd1,hd2⟩:=gh3.done
 rw [← esi] at hd1 hd2
 refine WT.ret hF (ao.one rfl) (fun w1 hw=>?_)
 refine ce (js:=[0,0]) hw rfl ⟨slc pv0 0 si.toNat 2,D2,rfl,by rw [hd2],hd1⟩
theorem tc (w0:ab Ψ Φ []) (p0:(List Int)) (p1:Int) (ph0:RSl (RI .i64) 1 Ψ pG0 pv0 p0) {r:Int} (h:gS N p0 p1=some r) :
  CB w0 prog 138 [pv0,iV p1] (iV r):=by
 refine eN func138 rfl ntmps138 rfl w0 fun hF=>?_
 unfold gS at h
 refine atr 8 [] rfl<|lnr ph0 rfl<|art 3 [] rfl ?_
 refine lin (σ:=Int) (fun s=>[(0,pv0),(1,iV p1),(7,iV (p0.length:Int)),(8,iV s)]) (fun s=>St w0 Φ [] []) (fun m s=>bK N p0 p1 m s=some r) (0) N h (sx [] []) (fun n1 ih1 s hm=>?_)
 revert hm; revert s; intro s1 hm
 have h:bK N p0 p1 (n1+1) s1=some r:=hm
 show WT _ _ [(0,pv0),(1,iV p1),(7,iV (p0.length:Int)),(8,iV s1)] (St w0 Φ [] [])
 unfold bK at h
 refine att 5 [] rfl ?_
 refine ch h rfl ?_ ?_ <;> intro h
 ·refine atr 13 [] rfl ?_
  obtain ⟨x1,hx1,h⟩:=bs h
  obtain ⟨cs1,F1,-,g1,hb1,hs1,r1⟩:=ph0.el (a7 hx1).2.2
  obtain ⟨rfl,-⟩:=r1
  refine lia ph0 hx1 rfl<|lhx 0 0 g1 rfl<|la rfl<|en ?_
  refine ch h rfl ?_ ?_ <;> intro h
  ·refine att 5 [] rfl ?_
   exact rt hF h
  refine att 6 [] rfl ?_
  exact lb [] [] (ih1 _ h)
 refine att 5 [] rfl ?_
 exact rt hF h
theorem rn (w0:ab Ψ Φ []) (p0:(List Int)) (p1:Int) (ph0:RSl (RI .i64) 1 Ψ pG0 pv0 p0) {r:Bool} (h:dy N p0 p1=some r) :
  CB w0 prog 83 [pv0,iV p1] (.bool r):=by
 refine eN func83 rfl ntmps83 rfl w0 fun hF=>?_
 unfold dy at h
 refine atr 8 [] rfl<|qd h (tc N · p0 p1 ph0 ·) rfl rfl rfl fun x1 h=>art 3 [] rfl ?_
 exact rt hF h
theorem uX (w0:ab Ψ Φ []) (p0:ak) (c0:Int) (ph0_0:RSl (RI .i64) 1 Ψ pG0_0 pv0_0 p0.Ids) (ph0_1:RSl (RI .i64) 1 Ψ pG0_1 pv0_1 p0.Hits) (ppc0:Ψ pbc0=some (.cells #[iV c0] 3 (0,0))) {r:Bool} (h:gm N p0 c0=some r) :
  CB w0 prog 82 [.agg [pv0_0,pv0_1].toArray,pQ pbc0] (.bool r):=by
 refine eN func82 rfl ntmps82 rfl w0 fun hF=>?_
 unfold gm at h
 refine sr<|lbx rfl fun b_1=>arr 6 [0,0] rfl<|lhx 0 0 (g9 ppc0) rfl<|qd h (rn N · p0.Ids c0 ph0_0 ·) rfl rfl rfl fun x1 h=>la rfl<|en ?_
 exact rt hF h
theorem wZ (w0:ab Ψ Φ []) (p0:af) (p1:Bool) (ph0_0:RSl bR 3 Ψ pG0_0 pv0_0 p0.Pats) (ph0_1:RSl aZ 11 Ψ pG0_1 pv0_1 p0.Conds) (ph0_2:RSl dZ 5 Ψ pG0_2 pv0_2 p0.Acts) {r:(List ax)} (h:sC N p0 p1=some r) :
  Calls prog 139 [.agg [.string p0.Name,iV p0.Sal,pv0_0,pv0_1,pv0_2].toArray,.bool p1].toArray w0.w (aL Φ w0.w [] (fun Φ' Fs v=>∃ (sr_0_0:Value) (Dr_0_0:List Nat),v=sr_0_0∧Fs=[ob sr_0_0]∧OSl bR 214 3 Φ' Dr_0_0 sr_0_0 r∧(∀ k∈Dr_0_0,k∈pG0_0))):=by
 refine eN func139 rfl ntmps139 rfl w0 fun hF=>?_
 unfold sC at h
 refine sr<|lbx rfl fun b_1=>arr 11 [2,0] rfl<|lnr ph0_0 rfl<|art 3 [] rfl<|wtS ?_
 have k1:=OSl.nil bR 214 3 Φ
 refine lin (σ:=Hp × (List ax) × Value × List Nat × Int) (fun s=>[(1,.bool p1),(5,s.2.2.1),(9,pv0_0),(10,iV (p0.Pats.length:Int)),(11,iV s.2.2.2.2)]) (fun s=>St w0 s.1 [] [ob s.2.2.1]) (fun m s=>ib N p0 p1 m s.2.1 s.2.2.2.2=some r∧(OSl bR 214 3 s.1 s.2.2.2.1 s.2.2.1 s.2.1)∧(∀ k∈s.2.2.2.1,k∈pG0_0)) (Φ,([]:List ax),(.slice none 0 0),[],0) N ⟨h,k1,(by simp)⟩ (sx [0] []) (fun n1 ih1 s hm=>?_)
 obtain ⟨Φ_1,s1,u1,D1,s2⟩:=s
 obtain ⟨h,k2,i1⟩:=hm
 dsimp only at h k2 i1 ⊢
 unfold ib at h
 refine att 5 [] rfl ?_
 refine ch h rfl ?_ ?_ <;> intro h
 ·refine atr 5 [] rfl ?_
  obtain ⟨x1,hx1,h⟩:=bs h
  obtain ⟨cs1,F1,-,g1,hb1,hs1,r1⟩:=ph0_0.el (a7 hx1).2.2
  obtain ⟨v1,G1,rfl,hq1,h1⟩:=r1
  obtain rfl:=hq1.symm
  refine lia ph0_0 hx1 rfl<|lhx 0 3 g1 rfl<|lnz pP rfl fun b_2=>soN 0 sX rfl ⟨rfl,h1.one,rfl,trivial⟩ rfl ?_
  refine arr 6 [2,0] rfl<|lq (MV LI rfl rfl) rfl<|en ?_
  refine ch h rfl ?_ ?_ <;> intro h
  ·refine atr 3 [3] rfl<|lu0 h1 fun h2=>?_
   have rc1:RC bR 3 Φ_1 ([G1]:List (List Nat)) [.string x1.Kind,v1,.bool x1.Not] ([x1]:List ax):=RC.cons (c:=[.string x1.Kind,v1,.bool x1.Not]) (cells:=[]) ⟨v1,G1,rfl,rfl,h2⟩ rfl (RC.nil _ _ _)
   refine le' (ed (vs:=[(0,.agg [.string x1.Kind,v1,.bool x1.Not].toArray)]) (C:=#[.string x1.Kind,v1,.bool x1.Not]) bR.lasts tC pP rfl rfl rfl rfl (aV HI (ag (C':=[.string x1.Kind,v1,.bool x1.Not]) rfl rfl rfl rfl rfl (aq))) rfl rc1 rfl (RC.kn bR.knows rc1)) rfl ?_
   rintro v2 Φ_2 D2 ⟨fr1,h3⟩
   replace h3:OSl bR 214 3 Φ_2 (G1) v2 ([x1]:List ax):=by simpa [List.append_assoc] using h3
   replace k2:=k2.f0 fr1
   obtain ⟨x2,hx2,h⟩:=bs h
   refine le' (kj bR.lasts bR.one tC LO rfl rfl rfl rfl rfl (js:=[1]) (Rr:=[ob v2]) rfl k2 h3 (fun ap=>(Dj.sub (ap.o ph0_0.old) i1)) (fun ap=>(Dj.sub (Dj.sub (ap.o ph0_0.old) (fun k h=>hs1 k h)) (fun k hk=>(by simpa [List.append_assoc] using hk:k∈G1)))) hx2) rfl ?_
   rintro v3 Φ_3 D3 ⟨⟨ap1,fr2⟩,h4⟩
   refine art 7 [] rfl ?_
   exact lb [0] [] (ih1 (_,_,_,_,_) ⟨h,h4,(fun k hk=>((List.mem_append.1 hk).elim (fun h=>(i1 k h)) (fun h=>((fun k h=>hs1 k h) k ((fun k hk=>(by simpa [List.append_assoc] using hk:k∈G1)) k h)))))⟩)
  refine att 6 [] rfl ?_
  exact lb [0] [] (ih1 (_,_,_,_,_) ⟨h,k2,(fun k hk=>(i1 k hk))⟩)
 refine att 6 [] rfl ?_
 exact rtg [0] hF (ao.one rfl) rfl (by cases h; exact fun w1 hw=>⟨u1,D1,rfl,rfl,k2,(fun k hk=>(i1 k hk))⟩)
theorem xr (w0:ab Ψ Φ []) (p0:bl) (p1:bd) (p2:aG) (p3:ah) (p4:Int) (p5:Int) (ph0_0:RSl bU 5 Ψ pG0_0 pv0_0 p0.Rules) (ph1_1:RSl bv 2 Ψ pG1_1 pv1_1 p1.Chains) (ph2_0:RSl dP 1 Ψ pG2_0 pv2_0 p2.Alphas) (ph3_0:RSl bN 3 Ψ pG3_0 pv3_0 p3.Items) {r:jW} (h:oW N p0 p1 p2 p3 p4 p5=some r) :
  Calls prog 84 [.agg [.string p0.Name,pv0_0].toArray,.agg [pv1_0,pv1_1].toArray,.agg [pv2_0,pv2_1].toArray,.agg [pv3_0,iV p3.Next].toArray,iV p4,iV p5].toArray w0.w (aL Φ w0.w [] (fun Φ' Fs v=>∃ (sr_0_0:Value) (Dr_0_0:List Nat) (sr_0_1:Value) (Dr_0_1:List Nat) (sr_0_2:Value) (Gr_0_2:List Nat) (sr_0_3:Value) (Gr_0_3:List Nat) (sr_0_4:Value) (Gr_0_4:List Nat) (sr_0_5:Value) (Gr_0_5:List Nat),v = .agg [sr_0_0,sr_0_1,sr_0_2,sr_0_3,sr_0_4,sr_0_5,iV r.s.Next,iV r.id].toArray∧Fs=[ob sr_0_0,ob sr_0_1]∧OSl bR 214 3 Φ' Dr_0_0 sr_0_0 r.pos∧(∀ k∈Dr_0_0,k∈pG0_0)∧OSl bR 214 3 Φ' Dr_0_1 sr_0_1 r.neg∧(∀ k∈Dr_0_1,k∈pG0_0)∧RSl (RI .i64) 1 Φ' Gr_0_2 sr_0_2 r.chain.Pos∧(∀ k∈Gr_0_2,k∈pG1_1)∧RSl (RI .i64) 1 Φ' Gr_0_3 sr_0_3 r.chain.Neg∧(∀ k∈Gr_0_3,k∈pG1_1)∧RSl dP 1 Φ' Gr_0_4 sr_0_4 r.alphas∧(∀ k∈Gr_0_4,k∈pG2_0)∧RSl bN 3 Φ' Gr_0_5 sr_0_5 r.s.Items∧(∀ k∈Gr_0_5,k∈pG3_0))):=by
 refine eN func84 rfl ntmps84 rfl w0 fun hF=>?_
 unfold oW at h
 refine sr<|lbx rfl fun b_1=>lbx rfl fun b_2=>lbx rfl fun b_3=>lbx rfl fun b_4=>lnz HS rfl fun b_5=>arr 6 [1,128] rfl ?_
 obtain ⟨x1,hx1,h⟩:=bs h
 obtain ⟨cs1,F1,-,g1,hb1,hs1,r1⟩:=ph0_0.el (a7 hx1).2.2
 obtain ⟨v1,G1,v2,G2,v3,G3,rfl,rfl,h1,h2,h3⟩:=r1
 refine lia ph0_0 hx1 rfl<|lhx 0 5 g1 rfl<|lnz wy rfl fun b_6=>soN 0 yN rfl ⟨rfl,rfl,h1.one,h2.one,h3.one,trivial⟩ rfl ?_
 refine en<|sq<|wm [0,1,2,3,4,5] [14] rfl<|amm 5 [0,5,2,5,4,1,5,128,6] [0,1,2,3,4,5] rfl rfl ?_
 obtain ⟨x2,hx2,h⟩:=bs h
 obtain ⟨cs2,F2,-,g2,hb2,hs2,r2⟩:=ph1_1.el (a7 hx2).2.2
 obtain ⟨v4,G4,v5,G5,rfl,rfl,h4,h5⟩:=r2
 refine mq 7 rfl (by kernel_rfl) (kN [0,1,2,3,4,5]) (aa tq rfl rfl ph1_1 hx2) rfl<|mq 8 rfl (by kernel_rfl) (kN [0,1,2,3,4,5]) (aw CP rfl (fun w1 hw=>(g2.of_eq 0 2 rfl rfl:rg _ _ _ [v4,v5]).rangeAt hw.1) rfl) rfl<|amm 4 [9,0,10,96,11,66,12] [0,1,2,3,4,5] rfl rfl ?_
 obtain ⟨x3,hx3,h⟩:=bs h
 refine WM.one 1 (by kernel_rfl) (mc rfl (fun _ v Φx D w1 hq hw=>Kn.of Kf.nil (am [0,1,2,3,4,5] rfl) hw) (aU (js:=[]) (R:=[]) GJ rfl rfl (fun w1 hw ap hl=>wZ N (ba hw.fro) x1 false (h1.y hw.up) (h2.y hw.up) (h3.y hw.up)  hx3)) rfl ?_)
 rintro v6 Φ_1 F3 ⟨ap1,fr1,v7,D1,rfl,rfl,h6,i1⟩
 obtain ⟨x4,hx4,h⟩:=bs h
 refine WM.one 3 (by kernel_rfl) (mc rfl (fun _ v Φx D w1 hq hw=>Kn.of Kf.nil (am [0,1,2,3,4,5] rfl) hw) (aU (js:=[]) (R:=[ob v6]) GJ rfl rfl (fun w1 hw ap hl=>wZ N (ba hw.fro) x1 true (h1.y hw.up) (h2.y hw.up) (h3.y hw.up)  hx4)) rfl ?_)
 rintro v8 Φ_2 F4 ⟨ap2,fr2,v9,D2,rfl,rfl,h7,i2⟩
 replace h6:=h6.fr fr2 (ap2.q 0 rfl) (Dj.sub (ap2.o h1.old) i1)
 refine mq 13 rfl (by kernel_rfl) (kN [0,1,2,3,4,5]) (cG (vs:=[(0,v6),(1,v8),(2,.agg [v4,v5].toArray),(3,pv2_0),(4,.agg [pv3_0,iV p3.Next].toArray),(5,iV p4)]) (C:=#[v6,v8,v4,v5,pv2_0,pv3_0,iV p3.Next,iV p4]) KX HS rfl (ag (C':=[v6,.slice none 0 0,.slice none 0 0,.slice none 0 0,.slice none 0 0,.slice none 0 0,iV 0,iV 0]) rfl (cJ h6.one) rfl rfl rfl (ag (C':=[v6,v8,.slice none 0 0,.slice none 0 0,.slice none 0 0,.slice none 0 0,iV 0,iV 0]) rfl (cJ h7.one) rfl rfl rfl (ag (C':=[v6,v8,v4,v5,.slice none 0 0,.slice none 0 0,iV 0,iV 0]) rfl rfl rfl rfl rfl (ag (C':=[v6,v8,v4,v5,pv2_0,.slice none 0 0,iV 0,iV 0]) rfl (cJ ph2_0.one) rfl rfl rfl (ag (C':=[v6,v8,v4,v5,pv2_0,pv3_0,iV p3.Next,iV 0]) rfl rfl rfl rfl rfl (ag (C':=[v6,v8,v4,v5,pv2_0,pv3_0,iV p3.Next,iV p4]) rfl rfl rfl rfl rfl (aq)))))))) rfl ?_
 refine on1 14 (msN 1 rfl nk M1 rfl ⟨h6.one,h7.one,h4.one,h5.one,ph2_0.one,ph3_0.one,rfl,rfl,trivial⟩ rfl rfl ?_)
 refine WM.nil (by kernel_rfl) ?_
 exact rtg [1,0] hF (ao.one (bB Ke rfl (fun w1 hw=>hw.rgO (i:=1) rfl 0 8 [v6,v8,v4,v5,pv2_0,pv3_0,iV p3.Next,iV p4] rfl) rfl)) rfl (by cases h; exact fun w1 hw=>⟨v6,D1,v8,D2,v4,G4,v5,G5,pv2_0,pG2_0,pv3_0,pG3_0,rfl,rfl,h6,(fun k hk=>((fun k h=>hs1 k (List.mem_append.2 (.inl h))) k (i1 k hk))),h7,(fun k hk=>((fun k h=>hs1 k (List.mem_append.2 (.inl h))) k (i2 k hk))),(h4.y hw.up),(fun k hk=>((fun k h=>hs2 k (List.mem_append.2 (.inl h))) k hk)),(h5.y hw.up),(fun k hk=>((fun k h=>hs2 k (List.mem_append.2 (.inr h))) k hk)),(ph2_0.y hw.up),(fun k hk=>hk),(ph3_0.y hw.up),(fun k hk=>hk)⟩)
theorem cX (w0:ab Ψ Φ []) (p0:(List aI)) (ph0:RSl bn 4 Ψ pG0 pv0 p0) {r:(List aI)} (h:br N p0=some r) :
  Calls prog 181 [pv0].toArray w0.w (aL Φ w0.w [] (fun Φ' Fs v=>∃ (sr_0_0:Value),v=sr_0_0∧Fs=[ob sr_0_0]∧OSl bn 271 4 Φ' [] sr_0_0 r)):=by
 refine eN func181 rfl ntmps181 rfl w0 fun hF=>?_
 unfold br at h
 refine att 6 [] rfl ?_
 rcases RSl.nilOr ph0 with ⟨hxs1,cc1,hv1⟩ | ⟨a1,cc1,hv1⟩
 ·replace h:some []=some r:=by simpa [hxs1,app] using h
  refine atr 2 [] rfl<|lq (ud nm (congrArg some hv1) rfl) rfl<|en ?_
  refine cd rfl (fun c=>?_) (fun c=>by simp at c)
  refine att 4 [] rfl ?_
  refine WT.ret hF (ao.one rfl) (fun w1 hw=>?_)
  cases h
  replace hw:=hw.addNil
  refine ce (js:=[0]) hw rfl ⟨.slice none 0 0,rfl,rfl,OSl.nil _ _ _ _⟩
 refine atr 2 [] rfl<|lq (ud nm (congrArg some hv1) rfl) rfl<|en ?_
 refine cd rfl (fun c=>by simp at c) (fun c=>?_)
 refine atr 3 [] rfl<|le' (ju bn.lasts nm tb rfl rfl) rfl ?_
 rintro v1 Φ_1 D1 ⟨fr1,h1⟩
 refine la rfl<|lu0 ph0 fun h2=>?_
 obtain ⟨x1,hx1,h⟩:=bs h
 refine le' (dV bn.lasts bn.one bn.flat nm zP rfl rfl rfl rfl rfl (js:=[0]) (Rr:=[]) rfl h1 h2 hx1) rfl ?_
 rintro v2 Φ_2 D2 ⟨⟨ap1,fr2⟩,h3⟩
 refine la rfl<|en ?_
 exact rtg [0] hF (ao.one rfl) rfl (by cases h; exact fun w1 hw=>⟨v2,rfl,rfl,h3⟩)
theorem AO (w0:ab Ψ Φ []) (p0:(List aI)) (p1:ByteArray) (ph0:RSl bn 4 Ψ pG0 pv0 p0) {r:aE × Bool} (h:rm N p0 p1=some r) :
  CB w0 prog 182 [pv0,.string p1] (.tuple #[.agg [iV r.1.K,iV r.1.N,.string r.1.S].toArray,.bool r.2]):=by
 refine eN func182 rfl ntmps182 rfl w0 fun hF=>?_
 unfold rm at h
 refine sr<|lnz jk rfl fun b_1=>arr 6 [] rfl<|lnr ph0 rfl<|art 3 [] rfl ?_
 refine lin (σ:=Int) (fun s=>[(1,.string p1),(4,pQ b_1),(8,pv0),(9,iV (p0.length:Int)),(10,iV s)]) (fun s=>St w0 Φ [(b_1,.cells #[iV 0,iV 0,.string (⟨#[]⟩:ByteArray)] 225 (0,0))] []) (fun m s=>gH N p0 p1 m s=some r) (0) N h (sx [] [0]) (fun n1 ih1 s hm=>?_)
 revert hm; revert s; intro s1 hm
 have h:gH N p0 p1 (n1+1) s1=some r:=hm
 show WT _ _ [(1,.string p1),(4,pQ b_1),(8,pv0),(9,iV (p0.length:Int)),(10,iV s1)] (St w0 Φ [(b_1,.cells #[iV 0,iV 0,.string (⟨#[]⟩:ByteArray)] 225 (0,0))] [])
 unfold gH at h
 refine att 5 [] rfl ?_
 refine ch h rfl ?_ ?_ <;> intro h
 ·refine atr 5 [] rfl ?_
  obtain ⟨x1,hx1,h⟩:=bs h
  obtain ⟨cs1,F1,-,g1,hb1,hs1,r1⟩:=ph0.el (a7 hx1).2.2
  obtain ⟨rfl,-⟩:=r1
  refine lia ph0 hx1 rfl<|lhx 0 4 g1 rfl<|lnz tb rfl fun b_2=>soN 0 Ku rfl ⟨rfl,rfl,rfl,rfl,trivial⟩ rfl ?_
  refine art 8 [0,0] rfl ?_
  refine ch h rfl ?_ ?_ <;> intro h
  ·refine atr 4 [1,3] rfl<|soN 1 qb rfl ⟨rfl,rfl,rfl,trivial⟩ rfl ?_
   refine la rfl<|en ?_
   refine WT.ret hF (ao.two (bB kT rfl (fun w1 hw=>hw.rgO (i:=1) rfl 0 3 [iV x1.V.K,iV x1.V.N,.string x1.V.S] rfl) rfl) rfl) (fun w1 hw=>?_)
   cases h
   exact ip hw
  refine att 6 [] rfl ?_
  exact lb [] [1] (ih1 _ h)
 refine xt rfl<|sr<|lq (cG (vs:=[]) (C:=#[iV 0,iV 0,.string (⟨#[]⟩:ByteArray)]) Ad jk rfl (aq)) rfl<|soN 0 qb rfl ⟨rfl,rfl,rfl,trivial⟩ rfl ?_
 refine la rfl<|en ?_
 refine WT.ret hF (ao.two (bB kT rfl (fun w1 hw=>hw.rgO (i:=0) rfl 0 3 [iV 0,iV 0,.string (⟨#[]⟩:ByteArray)] rfl) rfl) rfl) (fun w1 hw=>?_)
 cases h
 exact ip hw
theorem tn (w0:ab Ψ Φ []) (p0:ax) (p1:aA) (p2:(List aI)) (ph0_0:RSl bO 5 Ψ pG0_0 pv0_0 p0.Args) (ph1_0:RSl av 3 Ψ pG1_0 pv1_0 p1.Fields) (ph2:RSl bn 4 Ψ pG2 pv2 p2) {r:(List aI) × Bool} (h:jT N p0 p1 p2=some r) :
  Calls prog 141 [.agg [.string p0.Kind,pv0_0,.bool p0.Not].toArray,.agg [.string p1.Kind,pv1_0].toArray,pv2].toArray w0.w (aL Φ w0.w [] (fun Φ' Fs v=>∃ (sr_0_0:Value),v = .tuple #[sr_0_0,.bool r.2]∧Fs=[ob sr_0_0]∧OSl bn 271 4 Φ' [] sr_0_0 r.1)):=by
 refine eN func141 rfl ntmps141 rfl w0 fun hF=>?_
 unfold jT at h
 refine sr<|lbx rfl fun b_1=>lbx rfl fun b_2=>arr 12 [0,0,0,32] rfl ?_
 obtain ⟨b1,hb_1,h⟩:=bs h
 refine WL.cutN 8 [(27,.bool b1),(2,pv2),(3,pQ b_1),(4,pQ b_2)] ?_ (fun K=>?_)
 rotate_left
 ·refine sp 19 hb_1 rfl (fun hb_1=>?_) fun hb_1=>?_
  ·refine arr 8 [] rfl ?_
   cases hb_1
   exact ku K
  ·refine arr 2 [1,0] rfl<|ly rfl rfl<|lnr ph1_0 rfl<|arr 2 [1,32] rfl<|ly rfl rfl<|lnr ph0_0 rfl<|arr 2 [] rfl ?_
   cases hb_1
   exact ku K
 refine en ?_
 refine ch h rfl ?_ ?_ <;> intro h
 ·refine sr<|la rfl<|kab h rfl rfl rfl (fun b z q=>cX N b p2 (ph2.y z) q) ?_
  rintro x1 h v1 Φ_1 F1 ⟨ap1,fr1,v2,rfl,rfl,h1⟩
  refine art 3 [] rfl ?_
  exact rtg [0] hF (ao.two rfl rfl) rfl (by cases h; exact fun w1 hw=>⟨v1,rfl,rfl,h1⟩)
 refine atr 4 [] rfl<|kab h rfl rfl rfl (fun b z q=>cX N b p2 (ph2.y z) q) ?_
 rintro x2 h v3 Φ_2 F2 ⟨ap2,fr2,v4,rfl,rfl,h2⟩
 refine arr 7 [1,32] rfl<|lnr ph0_0 rfl<|art 3 [] rfl ?_
 refine lin (σ:=Hp × (List aI) × Value × Int) (fun s=>[(2,pv2),(4,pQ b_2),(8,s.2.2.1),(33,pv0_0),(34,iV (p0.Args.length:Int)),(35,iV s.2.2.2)]) (fun s=>St w0 s.1 [(b_2,.cells #[.string p1.Kind,pv1_0] 133 (0,0))] [ob s.2.2.1]) (fun m s=>cY N p0 p1 p2 m s.2.1 s.2.2.2=some r∧(OSl bn 271 4 s.1 [] s.2.2.1 s.2.1)) (Φ_2,x2,v3,0) N ⟨h,h2⟩ (sx [0] [0]) (fun n1 ih1 s hm=>?_)
 obtain ⟨Φ_3,s1,u1,s2⟩:=s
 obtain ⟨h,k1⟩:=hm
 dsimp only at h k1 ⊢
 unfold cY at h
 refine att 5 [] rfl ?_
 refine ch h rfl ?_ ?_ <;> intro h
 ·refine atr 6 [] rfl ?_
  obtain ⟨x3,hx3,h⟩:=bs h
  obtain ⟨cs1,F3,-,g1,hb1,hs1,r1⟩:=ph0_0.el (a7 hx3).2.2
  obtain ⟨rfl,-⟩:=r1
  refine lia ph0_0 hx3 rfl<|lhx 0 5 g1 rfl<|lnz oK rfl fun b_3=>la rfl<|soN 0 qP rfl ⟨rfl,rfl,rfl,rfl,rfl,trivial⟩ rfl ?_
  refine arr 6 [1,32] rfl ?_
  obtain ⟨x4,hx4,h⟩:=bs h
  obtain ⟨cs2,F4,-,g2,hb2,hs2,r2⟩:=ph1_0.el (a7 hx4).2.2
  obtain ⟨rfl,-⟩:=r2
  refine lia ph1_0 hx4 rfl<|lhx 0 3 g2 rfl<|lnz jk rfl fun b_4=>soN 0 qb rfl ⟨rfl,rfl,rfl,trivial⟩ rfl ?_
  refine art 12 [0,32] rfl ?_
  refine ch h rfl ?_ ?_ <;> intro h
  ·refine atr 5 [2,35,3] rfl<|lq (Cj p6 rfl rfl rfl (r:=bF x3.V x4) rfl) rfl<|en ?_
   refine ch h rfl ?_ ?_ <;> intro h
   ·refine sr<|la rfl<|kab h rfl rfl rfl (fun b z q=>cX N b p2 (ph2.y z) q) ?_
    rintro x5 h v5 Φ_4 F5 ⟨ap3,fr3,v6,rfl,rfl,h3⟩
    refine art 3 [] rfl ?_
    exact rtg [0] hF (ao.two rfl rfl) rfl (by cases h; exact fun w1 hw=>⟨v5,rfl,rfl,h3⟩)
   refine att 7 [] rfl ?_
   exact lb [0] [2] (ih1 (_,_,_,_) ⟨h,k1⟩)
  refine att 5 [] rfl ?_
  refine ch h rfl ?_ ?_ <;> intro h
  ·refine atr 5 [1,32] rfl<|qc h (AO N · s1 x3.S k1.rsl ·) rfl rfl rfl fun x6 h=>arr 3 [] rfl<|lnz jk rfl fun b_5=>soN 0 qb rfl ⟨rfl,rfl,rfl,trivial⟩ rfl ?_
   refine arr 7 [] rfl ?_
   obtain ⟨b2,hb_2,h⟩:=bs h
   refine WL.cutN 4 [(69,.bool b2),(2,pv2),(4,pQ b_2),(8,u1),(10,pQ b_3),(11,pQ b_4),(13,.bool x6.2),(33,pv0_0),(34,iV (p0.Args.length:Int)),(35,iV s2)] ?_ (fun K=>?_)
   rotate_left
   ·refine sp 65 hb_2 rfl (fun hb_2=>?_) fun hb_2=>?_
    ·refine arr 2 [3,35] rfl<|ly rfl rfl<|lq (Cj p6 rfl rfl rfl (r:=bF x6.1 x4) rfl) rfl<|la rfl ?_
     cases hb_2
     exact ku K
    ·refine arr 4 [] rfl ?_
     cases hb_2
     exact ku K
   refine en ?_
   refine ch h rfl ?_ ?_ <;> intro h
   ·refine sr<|la rfl<|kab h rfl rfl rfl (fun b z q=>cX N b p2 (ph2.y z) q) ?_
    rintro x7 h v7 Φ_5 F6 ⟨ap4,fr4,v8,rfl,rfl,h4⟩
    refine art 3 [] rfl ?_
    exact rtg [0] hF (ao.two rfl rfl) rfl (by cases h; exact fun w1 hw=>⟨v7,rfl,rfl,h4⟩)
   refine att 6 [] rfl ?_
   refine ch h rfl ?_ ?_ <;> intro h
   ·refine atr 5 [1,64,35] rfl<|lq (cG (vs:=[(0,.string x3.S),(1,.agg [iV x4.K,iV x4.N,.string x4.S].toArray)]) (C:=#[.string x3.S,iV x4.K,iV x4.N,.string x4.S]) IC tb rfl (ag (C':=[.string x3.S,iV 0,iV 0,.string ⟨#[]⟩]) rfl rfl rfl rfl rfl (ag (C':=[.string x3.S,iV x4.K,iV x4.N,.string x4.S]) rfl rfl rfl rfl rfl (aq)))) rfl ?_
    have rc1:RC bn 4 Φ_3 ([[]]:List (List Nat)) [.string x3.S,iV x4.K,iV x4.N,.string x4.S] ([(⟨x3.S,x4⟩:aI)]:List aI):=RC.cons (c:=[.string x3.S,iV x4.K,iV x4.N,.string x4.S]) (cells:=[]) ⟨rfl,rfl⟩ rfl (RC.nil _ _ _)
    refine le' (ed (vs:=[(0,.agg [.string x3.S,iV x4.K,iV x4.N,.string x4.S].toArray)]) (C:=#[.string x3.S,iV x4.K,iV x4.N,.string x4.S]) bn.lasts nm tb rfl rfl rfl rfl (aV ED (ag (C':=[.string x3.S,iV x4.K,iV x4.N,.string x4.S]) rfl rfl rfl rfl rfl (aq))) rfl rc1 rfl (by simpa using Kw.nil)) rfl ?_
    rintro v9 Φ_6 D1 ⟨fr5,h5⟩
    replace h5:OSl bn 271 4 Φ_6 [] v9 ([(⟨x3.S,x4⟩:aI)]:List aI):=by simpa using h5
    replace k1:=k1.f0 fr5
    obtain ⟨x8,hx8,h⟩:=bs h
    refine le' (dV bn.lasts bn.one bn.flat nm zP rfl rfl rfl rfl rfl (js:=[1]) (Rr:=[ob v9]) rfl k1 h5.rsl hx8) rfl ?_
    rintro v10 Φ_7 D2 ⟨⟨ap5,fr6⟩,h6⟩
    refine art 8 [] rfl ?_
    exact lb [0] [3] (ih1 (_,_,_,_) ⟨h,h6⟩)
   refine att 7 [] rfl ?_
   exact lb [0] [3] (ih1 (_,_,_,_) ⟨h,k1⟩)
  refine att 7 [] rfl ?_
  exact lb [0] [2] (ih1 (_,_,_,_) ⟨h,k1⟩)
 refine att 7 [] rfl ?_
 exact rtg [0] hF (ao.two rfl rfl) rfl (by cases h; exact fun w1 hw=>⟨u1,rfl,rfl,k1⟩)
theorem yS (w0:ab Ψ Φ []) (p0:(List ax)) (p1:ah) (p2:(List Int)) (ph0:RSl bR 3 Ψ pG0 pv0 p0) (ph1_0:RSl bN 3 Ψ pG1_0 pv1_0 p1.Items) (ph2:RSl (RI .i64) 1 Ψ pG2 pv2 p2) {r:(List aI) × Bool} (h:ou N p0 p1 p2=some r) :
  Calls prog 140 [pv0,.agg [pv1_0,iV p1.Next].toArray,pv2].toArray w0.w (aL Φ w0.w [] (fun Φ' Fs v=>∃ (sr_0_0:Value),v = .tuple #[sr_0_0,.bool r.2]∧Fs=[ob sr_0_0]∧OSl bn 271 4 Φ' [] sr_0_0 r.1)):=by
 refine eN func140 rfl ntmps140 rfl w0 fun hF=>?_
 unfold ou at h
 refine sr<|lbx rfl fun b_1=>arr 11 [] rfl<|lnr ph2 rfl<|art 3 [] rfl<|wtS ?_
 have k1:=OSl.nil bn 271 4 Φ
 refine lin (σ:=Hp × (List aI) × Value × Int) (fun s=>[(0,pv0),(4,pQ b_1),(8,s.2.2.1),(13,pv2),(14,iV (p2.length:Int)),(15,iV s.2.2.2)]) (fun s=>St w0 s.1 [(b_1,.cells #[pv1_0,iV p1.Next] 57 (0,0))] [ob s.2.2.1]) (fun m s=>fX N p0 p1 p2 m s.2.1 s.2.2.2=some r∧(OSl bn 271 4 s.1 [] s.2.2.1 s.2.1)) (Φ,([]:List aI),(.slice none 0 0),0) N ⟨h,k1⟩ (sx [0] [0]) (fun n1 ih1 s hm=>?_)
 obtain ⟨Φ_1,s1,u1,s2⟩:=s
 obtain ⟨h,k2⟩:=hm
 dsimp only at h k2 ⊢
 unfold fX at h
 refine att 5 [] rfl ?_
 refine ch h rfl ?_ ?_ <;> intro h
 ·refine atr 6 [] rfl ?_
  obtain ⟨x1,hx1,h⟩:=bs h
  obtain ⟨cs1,F1,-,g1,hb1,hs1,r1⟩:=ph2.el (a7 hx1).2.2
  obtain ⟨rfl,-⟩:=r1
  refine lia ph2 hx1 rfl<|lhx 0 0 g1 rfl<|arr 7 [2] rfl<|kab h rfl rfl rfl (fun b z q=>rN N b p1 x1 (ph1_0.y z) q) ?_
  rintro x2 h v1 Φ_2 F2 ⟨ap1,fr1,v2,rfl,rfl,h1⟩
  replace k2:=k2.fr fr1 (ap1.q 0 rfl) dN
  refine arr 3 [] rfl<|lnz kh rfl fun b_2=>soN 0 kY rfl ⟨rfl,h1.one,trivial⟩ rfl ?_
  refine art 8 [] rfl ?_
  refine ch h rfl ?_ ?_ <;> intro h
  ·refine att 5 [] rfl ?_
   refine WT.ret hF (ao.two rfl rfl) (fun w1 hw=>?_)
   cases h
   replace hw:=hw.addNil
   refine ce (js:=[0]) hw rfl ⟨.slice none 0 0,rfl,rfl,OSl.nil _ _ _ _⟩
  refine att 2 [] rfl<|wm [0,1] [] rfl<|amm 2 [0,1] [0,1] rfl rfl ?_
  obtain ⟨x3,hx3,h⟩:=bs h
  obtain ⟨cs2,F3,-,g2,hb2,hs2,r2⟩:=ph0.el (a7 hx3).2.2
  obtain ⟨v3,G1,rfl,hq1,h2⟩:=r2
  obtain rfl:=hq1.symm
  refine mq 2 rfl (by kernel_rfl) (kN [0,1]) (aa tC rfl rfl ph0 hx3) rfl<|mq 3 rfl (by kernel_rfl) (kN [0,1]) (aw uW rfl (fun w1 hw=>(g2.of_eq 0 3 rfl rfl:rg _ _ _ [.string x3.Kind,v3,.bool x3.Not]).rangeAt hw.1) rfl) rfl<|amm 2 [4,2,5] [0,1] rfl rfl ?_
  obtain ⟨x4,hx4,h⟩:=bs h
  refine WM.one 6 (by kernel_rfl) (mc rfl (fun _ v Φx D w1 hq hw=>Kn.of Kf.nil (ai2 0 1 rfl rfl) hw) (aU (js:=[]) (R:=[ob v2,ob u1]) J4 rfl rfl (fun w1 hw ap hl=>tn N (ba hw.fro) x3 x2.1 s1 (h2.y hw.up) h1.rsl k2.rsl  hx4)) rfl ?_)
  rintro v4 Φ_3 F4 ⟨ap2,fr2,v5,rfl,rfl,h3⟩
  replace k2:=k2.fr fr2 (ap2.q 1 rfl) dN
  refine amm 5 [7,8,9,10,11] [0,1] rfl rfl<|WM.nil (by kernel_rfl)<|att 5 [] rfl ?_
  refine ch h rfl ?_ ?_ <;> intro h
  ·refine att 5 [] rfl ?_
   refine WT.ret hF (ao.two rfl rfl) (fun w1 hw=>?_)
   cases h
   replace hw:=hw.addNil
   refine ce (js:=[0]) hw rfl ⟨.slice none 0 0,rfl,rfl,OSl.nil _ _ _ _⟩
  refine att 6 [] rfl ?_
  exact lb [0] [1] (ih1 (_,_,_,_) ⟨h,h3⟩)
 refine att 7 [] rfl ?_
 exact rtg [0] hF (ao.two rfl rfl) rfl (by cases h; exact fun w1 hw=>⟨u1,rfl,rfl,k2⟩)
theorem ug (w0:ab Ψ Φ [ob pv1,pD1].flatten) (p0:jW) (p1:(List ak)) (p2:Int) (ph0_0:RSl bR 3 Ψ pG0_0 pv0_0 p0.pos) (ph0_1:RSl bR 3 Ψ pG0_1 pv0_1 p0.neg) (ph0_2:RSl (RI .i64) 1 Ψ pG0_2 pv0_2 p0.chain.Pos) (ph0_3:RSl (RI .i64) 1 Ψ pG0_3 pv0_3 p0.chain.Neg) (ph0_4:RSl dP 1 Ψ pG0_4 pv0_4 p0.alphas) (ph0_5:RSl bN 3 Ψ pG0_5 pv0_5 p0.s.Items) (ph1:OSl aO 159 2 Φ pD1 pv1 p1) {r:(List ak)} (h:hJ N p0 p1 p2=some r) :
  Calls prog 85 [.agg [pv0_0,pv0_1,pv0_2,pv0_3,pv0_4,pv0_5,iV p0.s.Next,iV p0.id].toArray,pv1,iV p2].toArray w0.w (aL Φ w0.w [ob pv1,pD1].flatten (fun Φ' Fs v=>∃ (Do_0_0:List Nat),v = .tuple #[]∧Fs=[ob pv1,Do_0_0]∧OSl aO 159 2 Φ' Do_0_0 pv1 r)):=by
 refine eL func85 rfl ntmps85 rfl (L:=[ob pv1,pD1]) w0 (fun hF=>?_)
 unfold hJ at h
 refine sr<|lbx rfl fun b_1=>arr 7 [5,2,7,0] rfl<|kab h rfl rfl rfl (fun b z q=>rN N b p0.s p0.id (ph0_5.y z) q) ?_
 rintro x1 h v1 Φ_1 F1 ⟨ap1,fr1,v2,rfl,rfl,h1⟩
 replace ph1:=ph1.fr fr1 (ap1.q 0 rfl) (ap1.q 1 rfl)
 refine arr 3 [] rfl<|lnz kh rfl fun b_2=>soN 0 kY rfl ⟨rfl,h1.one,trivial⟩ rfl ?_
 refine arr 5 [] rfl<|lno ph1 rfl<|art 3 [] rfl ?_
 refine lin (σ:=Hp × (List ak) × List Nat × Int) (fun s=>[(2,iV p2),(3,pQ b_1),(6,pQ b_2),(24,pv1),(25,iV (p1.length:Int)),(26,iV s.2.2.2)]) (fun s=>St w0 s.1 [(b_2,.cells #[.string x1.1.Kind,v2] 133 (0,0)),(b_1,.cells #[pv0_0,pv0_1,pv0_2,pv0_3,pv0_4,pv0_5,iV p0.s.Next,iV p0.id] 166 (0,0))] [ob v2,ob pv1,s.2.2.1]) (fun m s=>bt N p0 p1 p2 x1 m s.2.1 s.2.2.2=some r∧(OSl aO 159 2 s.1 s.2.2.1 pv1 s.2.1)∧(OSl av 225 3 s.1 [] v2 x1.1.Fields)) (Φ_1,p1,pD1,0) N ⟨h,ph1,h1⟩ (sx [0,0,0] [0,0]) (fun n1 ih1 s hm=>?_)
 obtain ⟨Φ_2,s1,D1,s2⟩:=s
 obtain ⟨h,k1,h1⟩:=hm
 dsimp only at h k1 h1 ⊢
 unfold bt at h
 refine att 5 [] rfl ?_
 refine ch h rfl ?_ ?_ <;> intro h
 ·refine atr 5 [] rfl ?_
  obtain ⟨x2,hx2,h⟩:=bs h
  obtain ⟨cs1,F2,D2,h2,r1,kf1,sp1⟩:=k1.focus hx2
  obtain ⟨v3,v4,rfl,rfl,h3,h4⟩:=r1
  refine wlL [ob v3,ob v4,D2,ob v2,ob pv1] (sre [2] [ob v3,ob v4,D2] rfl (by simpa [List.append_assoc] using sp1))<|lih h2 hx2 rfl<|lgx 0 2 h2.rg rfl<|lnz iz rfl fun b_3=>soN 0 vc rfl ⟨h3.one,h4.one,trivial⟩ rfl ?_
  refine arr 9 [0,64,5,66,0,0] rfl<|kab h rfl rfl rfl (fun b z q=>yS N b p0.pos p0.s x2.Ids (ph0_0.y z) (ph0_5.y z) h3.rsl q) ?_
  rintro x3 h v5 Φ_3 F3 ⟨ap2,fr2,v6,rfl,rfl,h5⟩
  replace h2:=h2.fr fr2 (ap2.q 4 rfl) (ap2.q 2 rfl)
  replace h1:=h1.fr fr2 (ap2.q 3 rfl) dN
  replace h3:=h3.fr fr2 (ap2.q 0 rfl) dN
  replace h4:=h4.fr fr2 (ap2.q 1 rfl) dN
  refine art 12 [] rfl ?_
  refine ch h rfl ?_ ?_ <;> intro h
  ·refine att 5 [] rfl ?_
   have r2:aO Φ_3 _ [v3,v4] x2:=⟨v3,v4,rfl,rfl,h3,h4⟩
   obtain ⟨D3,h6,sp2⟩:=h2.unfocus r2 (aO.knows _ _ _ _ r2)
   rw [IA hx2] at h6
   refine wtL [D3,ob v6,ob v2,ob pv1] (smg [1,1,1] rfl (by simpa [List.append_assoc,bm] using sp2)) ?_
   exact lb [2,2,0] [1,1] (ih1 (_,_,_,_) ⟨h,h6,h1⟩)
  refine atr 5 [1,64] rfl<|lnr ph0_1 rfl<|art 3 [] rfl ?_
  refine lin (σ:=Hp × (List Int) × Int) (fun s=>[(2,iV p2),(3,pQ b_1),(6,pQ b_2),(9,pQ b_3),(10,v6),(24,pv1),(25,iV (p1.length:Int)),(26,iV s2),(43,pv0_1),(44,iV (p0.neg.length:Int)),(45,iV s.2.2)]) (fun s=>St w0 s.1 [(b_3,.cells #[v3,v4] 159 (0,0)),(b_2,.cells #[.string x1.1.Kind,v2] 133 (0,0)),(b_1,.cells #[pv0_0,pv0_1,pv0_2,pv0_3,pv0_4,pv0_5,iV p0.s.Next,iV p0.id] 166 (0,0))] [ob v6,ob v3,ob v4,D2,ob v2,ob pv1]) (fun m s=>bP N p0 p2 x1 s1 s2 (bt N p0 p1 p2 x1 n1) x2 x3 m s.2.1 s.2.2=some r∧(OSl av 225 3 s.1 [] v2 x1.1.Fields)∧(OSl (RI .i64) 3 1 s.1 [] v3 x2.Ids)∧(OSl (RI .i64) 3 1 s.1 [] v4 s.2.1)∧(OSl bn 271 4 s.1 [] v6 x3.1)∧(HSl aO 159 2 s.1 D2 pv1 s1 s2.toNat [v3,v4])) (Φ_3,x2.Hits,0) N ⟨h,h1,h3,h4,h5,h2⟩ (sx [0,0,0,0,0,0] [0,0,0]) (fun n2 ih2 s hm=>?_)
  obtain ⟨Φ_4,s3,s4⟩:=s
  obtain ⟨h,h1,h3,k3,h5,k2⟩:=hm
  dsimp only at h h1 h3 k3 h5 k2 ⊢
  unfold bP at h
  refine att 5 [] rfl ?_
  refine ch h rfl ?_ ?_ <;> intro h
  ·refine atr 6 [] rfl ?_
   obtain ⟨x4,hx4,h⟩:=bs h
   obtain ⟨cs2,F4,-,g1,hb2,hs1,r3⟩:=ph0_1.el (a7 hx4).2.2
   obtain ⟨v7,G1,rfl,hq1,h7⟩:=r3
   obtain rfl:=hq1.symm
   refine lia ph0_1 hx4 rfl<|lhx 0 3 g1 rfl<|lnz pP rfl fun b_4=>la rfl<|soN 0 sX rfl ⟨rfl,h7.one,rfl,trivial⟩ rfl ?_
   refine arr 6 [3,66] rfl<|kab h rfl rfl rfl (fun b z q=>tn N b x4 x1.1 x3.1 (h7.y z) h1.rsl h5.rsl q) ?_
   rintro x5 h v8 Φ_5 F5 ⟨ap3,fr3,v9,rfl,rfl,h8⟩
   replace k2:=k2.fr fr3 (ap3.q 5 rfl) (ap3.q 3 rfl)
   replace h1:=h1.fr fr3 (ap3.q 4 rfl) dN
   replace h3:=h3.fr fr3 (ap3.q 1 rfl) dN
   replace k3:=k3.fr fr3 (ap3.q 2 rfl) dN
   replace h5:=h5.fr fr3 (ap3.q 0 rfl) dN
   refine art 10 [] rfl ?_
   refine ch h rfl ?_ ?_ <;> intro h
   ·refine atr 4 [1,32] rfl ?_
    obtain ⟨x6,hx6,h⟩:=bs h
    obtain ⟨cs3,F6,-,g2,hb3,hs2,r4⟩:=k3.elS (a7 hx6).2.2
    obtain ⟨rfl,-⟩:=r4
    refine lio k3 hx6 rfl<|lgx 0 0 g2 rfl<|arr 2 [] rfl ?_
    obtain ⟨x7,hx7,h⟩:=bs h
    obtain ⟨cs4,F7,-,g3,hb4,hs3,r5⟩:=k3.elS (a7 hx7).2.2
    obtain ⟨rfl,-⟩:=r5
    refine lio k3 hx7 rfl<|lu (tM (js:=[3]) (Rr:=[ob v9,ob v6,ob v3,D2,ob v2,ob pv1]) (vs:=[iV (wz (x6+p2))]) (x':=wz (x6+p2)) RI.lasts RI.flat iE rfl rfl rfl rfl ⟨rfl,trivial⟩ rfl k3 (fV hx7) ⟨rfl,rfl⟩) rfl ?_
    rintro Φ_6 D4 ⟨⟨ap4,fr4⟩,h9⟩
    replace k2:=k2.fr fr4 (ap4.q 5 rfl) (ap4.q 3 rfl)
    replace h1:=h1.fr fr4 (ap4.q 4 rfl) dN
    replace h3:=h3.fr fr4 (ap4.q 2 rfl) dN
    replace h5:=h5.fr fr4 (ap4.q 1 rfl) dN
    refine art 6 [] rfl ?_
    exact lb [2,2,0,1,1,1] [1,1,1] (ih2 (_,_,_) ⟨h,h1,h3,h9,h5,k2⟩)
   refine att 6 [] rfl ?_
   exact lb [1,1,1,1,1,1] [1,1,1] (ih2 (_,_,_) ⟨h,h1,h3,k3,h5,k2⟩)
  refine att 6 [] rfl ?_
  have r6:aO Φ_4 _ [v3,v4] (⟨x2.Ids,s3⟩:ak):=⟨v3,v4,rfl,rfl,h3,k3⟩
  obtain ⟨D5,h10,sp3⟩:=k2.unfocus r6 (aO.knows _ _ _ _ r6)
  refine wtL [D5,ob v6,ob v2,ob pv1] (smg [1,1,1] rfl (by simpa [List.append_assoc,bm] using sp3)) ?_
  exact lb [2,2,0] [1,1] (ih1 (_,_,_,_) ⟨h,h10,h1⟩)
 refine xt rfl ?_
 refine WT.fin hF ao.none (fun w1 hw=>?_)
 cases h
 refine ce (js:=[1,1]) hw rfl ⟨D1,rfl,rfl,k1⟩
theorem xh (w0:ab Ψ Φ [ob pv2_0,pD2_0,ob pv2_1,pD2_1].flatten) (p0:bl) (p1:bd) (p2:aG) (p3:ah) (p4:Int) (ph0_0:RSl bU 5 Ψ pG0_0 pv0_0 p0.Rules) (ph1_0:RSl be 4 Ψ pG1_0 pv1_0 p1.Alphas) (ph1_1:RSl bv 2 Ψ pG1_1 pv1_1 p1.Chains) (ph2_0:OSl aF 123 1 Φ pD2_0 pv2_0 p2.Alphas) (ph2_1:OSl aM 126 1 Φ pD2_1 pv2_1 p2.Rules) (ph3_0:RSl bN 3 Ψ pG3_0 pv3_0 p3.Items) {r:(List aP) × (List aC)} (h:mg N p0 p1 p2 p3 p4=some r) :
  Calls prog 40 [.agg [.string p0.Name,pv0_0].toArray,.agg [pv1_0,pv1_1].toArray,.agg [pv2_0,pv2_1].toArray,.agg [pv3_0,iV p3.Next].toArray,iV p4].toArray w0.w (aL Φ w0.w [ob pv2_0,pD2_0,ob pv2_1,pD2_1].flatten (fun Φ' Fs v=>∃ (Do_0_0:List Nat) (Do_1_0:List Nat),v = .tuple #[]∧Fs=[ob pv2_0,Do_0_0,ob pv2_1,Do_1_0]∧OSl aF 123 1 Φ' Do_0_0 pv2_0 r.1∧OSl aM 126 1 Φ' Do_1_0 pv2_1 r.2)):=by
 refine eL func40 rfl ntmps40 rfl (L:=[ob pv2_0,pD2_0,ob pv2_1,pD2_1]) w0 (fun hF=>?_)
 unfold mg at h
 refine sr<|lbx rfl fun b_1=>lbx rfl fun b_2=>lbx rfl fun b_3=>lbx rfl fun b_4=>?_
 refine ln (qY (C:=#[iV p4]) rfl (rfl)) rfl (fun b_5=>?_)
 refine en<|sr ?_
 refine WL.frz (js:=[0]) (R:=[(b_4,.cells #[pv3_0,iV p3.Next] 57 (0,0)),(b_3,.cells #[pv2_0,pv2_1] 43 (0,0)),(b_2,.cells #[pv1_0,pv1_1] 52 (0,0)),(b_1,.cells #[.string p0.Name,pv0_0] 47 (0,0))]) rfl (fun Φ_1 fr1 k1=>?_)
 replace ph2_0:=ph2_0.f0 fr1
 replace ph2_1:=ph2_1.f0 fr1
 refine lq (uQ rfl) rfl<|arr 7 [0,32] rfl<|lno ph2_0 rfl<|art 3 [] rfl ?_
 refine lin (σ:=Hp × (List aP) × List Nat × Int) (fun s=>[(5,pQ b_1),(6,pQ b_2),(7,pQ b_3),(8,pQ b_4),(9,pQ b_5),(10,.func (.func 79) #[] [pQ b_5].toArray),(18,iV (p2.Alphas.length:Int)),(19,iV s.2.2.2)]) (fun s=>St w0 s.1 [(b_4,.cells #[pv3_0,iV p3.Next] 57 (0,0)),(b_3,.cells #[pv2_0,pv2_1] 43 (0,0)),(b_2,.cells #[pv1_0,pv1_1] 52 (0,0)),(b_1,.cells #[.string p0.Name,pv0_0] 47 (0,0))] [[b_5],ob pv2_0,s.2.2.1,ob pv2_1,pD2_1]) (fun m s=>dM N p0 p1 p2 p3 p4 m s.2.1 s.2.2.2=some r∧(OSl aF 123 1 s.1 s.2.2.1 pv2_0 s.2.1)∧(OSl aM 126 1 s.1 pD2_1 pv2_1 p2.Rules)∧(s.1 b_5=some (.cells #[iV p4] 3 (0,0)))) (Φ_1,p2.Alphas,pD2_0,0) N ⟨h,ph2_0,ph2_1,k1⟩ (sx [0,0,0,0,0] [0,0,0,0]) (fun n1 ih1 s hm=>?_)
 obtain ⟨Φ_2,s1,D1,s2⟩:=s
 obtain ⟨h,k2,ph2_1,k3⟩:=hm
 dsimp only at h k2 ph2_1 k3 ⊢
 unfold dM at h
 refine att 5 [] rfl ?_
 refine ch h rfl ?_ ?_ <;> intro h
 ·refine att 8 [] rfl ?_
  obtain ⟨x1,hx1,h⟩:=bs h
  obtain ⟨cs1,F1,D2,h1,r1,kf1,sp1⟩:=k2.focus hx1
  obtain ⟨v1,rfl,rfl,h2⟩:=r1
  refine wtL [ob v1,D2,[b_5],ob pv2_0,ob pv2_1,pD2_1] (sre [2] [ob v1,D2] rfl (by simpa [List.append_assoc] using sp1))<|WT.mix (Kn w0 Φ_2 (ob pv2_0) [(b_4,.cells #[pv3_0,iV p3.Next] 57 (0,0)),(b_3,.cells #[pv2_0,pv2_1] 43 (0,0)),(b_2,.cells #[pv1_0,pv1_1] 52 (0,0)),(b_1,.cells #[.string p0.Name,pv0_0] 47 (0,0))]) (fun i=>match i with | 13=>false | _=>true) d7 (fun _ h=>h.drew)<|mq 0 rfl (by kernel_rfl) (kn Kf.id (am [0,1,2,3] rfl)) (aH o0 rfl) rfl ?_
  refine mq 1 rfl (by kernel_rfl) (kn Kf.id (am [0,1,2,3] rfl)) (bk JO rfl (fun w1 hw=>hw.rgO (i:=1) rfl 0 1 [pv2_0] rfl)) rfl<|ma 2 rfl (by kernel_rfl) (kn Kf.id (am [0,1,2,3] rfl)) rfl<|mq 3 rfl (by kernel_rfl) (kn Kf.id (am [0,1,2,3] rfl)) (aH o0 rfl) rfl<|mq 4 rfl (by kernel_rfl) (kn Kf.id (am [0,1,2,3] rfl)) (bk JO rfl (fun w1 hw=>hw.rgO (i:=1) rfl 0 1 [pv2_0] rfl)) rfl<|ma 5 rfl (by kernel_rfl) (kn Kf.id (am [0,1,2,3] rfl)) rfl<|mq 6 rfl (by kernel_rfl) (kn Kf.id (am [0,1,2,3] rfl)) (fH uJ rfl rfl h1 hx1) rfl ?_
  refine mq 7 rfl (by kernel_rfl) (kn Kf.id (am [0,1,2,3] rfl)) (aH jV rfl) rfl<|mq 8 rfl (by kernel_rfl) (kn Kf.id (am [0,1,2,3] rfl)) (bk pX rfl (fun w1 hw=>hw.rg h1.hb (h1.rg.of_eq 0 1 rfl rfl:rg _ _ _ [v1]))) rfl<|ma 9 rfl (by kernel_rfl) (kn Kf.id (am [0,1,2,3] rfl)) rfl ?_
  obtain ⟨x2,hx2,h⟩:=bs h
  refine WM.one 10 (by kernel_rfl) (mc rfl (fun _ v Φx D w1 hq hw=>Kn.of (Kf.id.st hq.2.1 (hq.1.r (i:=2) rfl)) (am [0,1,2,3] rfl) hw) (aU (js:=[0]) (R:=[D2,[b_5],ob pv2_0,ob pv2_1,pD2_1]) Kr rfl rfl (fun w1 hw ap hl=>oU N (bx hw ap hl) x1.L (fun a0=>iH N a0 p4) h2 Kp (fun hle' hin a0=>fun hr=>uO N (ba hin) a0 p4  (hle' _ _ ((ap.q 1 rfl) _ (by simp)) k3) hr)  hx2)) rfl ?_)
  rintro v2 Φ_3 F2 ⟨ap1,fr2,v3,rfl,rfl,h3⟩
  replace h1:=h1.fr fr2 (ap1.q 2 rfl) (ap1.q 0 rfl)
  replace ph2_1:=ph2_1.fr fr2 (ap1.q 3 rfl) (ap1.q 4 rfl)
  replace k3:=fr2 _ _ ((ap1.q 1 rfl) _ (by simp)) k3
  have kf1:=(Kf.id (F:=(ob pv2_0)):Kf Φ_2 _ _).st fr2 (ap1.q 2 rfl)
  refine mqT 11 [12,13] rfl (by kernel_rfl) (kn kf1 (am [0,1,2,3] rfl)) (fH uJ rfl rfl h1 hx1) rfl<|mq 12 rfl (by kernel_rfl) (kn kf1 (am [0,1,2,3] rfl)) (aH jV rfl) rfl ?_
  refine WM.one 13 (by kernel_rfl) (mu rfl (fun hc=>by cases hc) (us [3] [ob v2,D2,[b_5],ob pv2_1,pD2_1] 0 aF.lasts mf rfl rfl h3.one rfl h1 rfl (fun ap=>ap.q 1 rfl)) rfl ?_)
  rintro Φ_4 D3 ⟨⟨ap2,fr3⟩,h4⟩
  replace ph2_1:=ph2_1.fr fr3 (ap2.q 3 rfl) (ap2.q 4 rfl)
  replace h3:=h3.fr fr3 (ap2.q 0 rfl) dN
  replace k3:=fr3 _ _ ((ap2.q 2 rfl) _ (by simp)) k3
  refine WM.nil (by kernel_rfl)<|att 5 [] rfl ?_
  have r2:aF Φ_4 _ [v2] (⟨x2⟩:aP):=⟨v2,rfl,rfl,h3⟩
  obtain ⟨D4,h5,sp2⟩:=h4.unfocus r2 (aF.knows _ _ _ _ r2)
  refine wtL [D4,ob pv2_0,[b_5],ob pv2_1,pD2_1] (smg [1,1] rfl (by simpa [List.append_assoc,bm] using sp2)) ?_
  exact lb [2,1,0,0,0] [0,0,0,0] (ih1 (_,_,_,_) ⟨h,h5,ph2_1,k3⟩)
 refine atr 5 [1,32] rfl<|lno ph2_1 rfl<|art 3 [] rfl ?_
 refine lin (σ:=Hp × (List aC) × List Nat × Int) (fun s=>[(5,pQ b_1),(6,pQ b_2),(7,pQ b_3),(8,pQ b_4),(9,pQ b_5),(37,pv2_1),(38,iV (p2.Rules.length:Int)),(39,iV s.2.2.2)]) (fun s=>St w0 s.1 [(b_4,.cells #[pv3_0,iV p3.Next] 57 (0,0)),(b_3,.cells #[pv2_0,pv2_1] 43 (0,0)),(b_2,.cells #[pv1_0,pv1_1] 52 (0,0)),(b_1,.cells #[.string p0.Name,pv0_0] 47 (0,0))] [[b_5],ob pv2_0,D1,ob pv2_1,s.2.2.1]) (fun m s=>cV N p0 p1 p2 p3 p4 s1 m s.2.1 s.2.2.2=some r∧(OSl aF 123 1 s.1 D1 pv2_0 s1)∧(OSl aM 126 1 s.1 s.2.2.1 pv2_1 s.2.1)∧(s.1 b_5=some (.cells #[iV p4] 3 (0,0)))) (Φ_2,p2.Rules,pD2_1,0) N ⟨h,k2,ph2_1,k3⟩ (sx [0,0,0,0,0] [0,0,0,0]) (fun n2 ih2 s hm=>?_)
 obtain ⟨Φ_5,s3,D5,s4⟩:=s
 obtain ⟨h,k2,k4,k5⟩:=hm
 dsimp only at h k2 k4 k5 ⊢
 unfold cV at h
 refine att 5 [] rfl ?_
 refine ch h rfl ?_ ?_ <;> intro h
 ·refine atr 6 [] rfl ?_
  obtain ⟨x3,hx3,h⟩:=bs h
  obtain ⟨cs2,F3,D6,h6,r3,kf2,sp3⟩:=k4.focus hx3
  obtain ⟨v4,D7,rfl,rfl,h7⟩:=r3
  refine wlL [ob v4,D7,D6,[b_5],ob pv2_0,D1,ob pv2_1] (sre [4] [ob v4,D7,D6] rfl (by simpa [List.append_assoc] using sp3))<|lih h6 hx3 rfl<|lgx 0 1 h6.rg rfl ?_
  refine ln (gT (C:=#[.slice none 0 0]) rb rfl) rfl (fun b_6=>?_)
  refine la rfl<|soN 0 wK rfl ⟨h7.one,trivial⟩ rfl ?_
  refine arr 6 [0,0] rfl<|lno h7 rfl<|art 3 [] rfl ?_
  refine lin (σ:=Hp × (List ae) × List Nat × Int) (fun s=>[(5,pQ b_1),(6,pQ b_2),(7,pQ b_3),(8,pQ b_4),(9,pQ b_5),(12,iV s4),(13,pQ b_6),(37,pv2_1),(38,iV (p2.Rules.length:Int)),(39,iV s4),(46,iV (x3.Levels.length:Int)),(47,iV s.2.2.2)]) (fun s=>St w0 s.1 [(b_6,.cells #[v4] 126 (0,0)),(b_4,.cells #[pv3_0,iV p3.Next] 57 (0,0)),(b_3,.cells #[pv2_0,pv2_1] 43 (0,0)),(b_2,.cells #[pv1_0,pv1_1] 52 (0,0)),(b_1,.cells #[.string p0.Name,pv0_0] 47 (0,0))] [ob v4,s.2.2.1,D6,[b_5],ob pv2_0,D1,ob pv2_1]) (fun m s=>dK N p0 p1 p3 p4 s1 s3 s4 (cV N p0 p1 p2 p3 p4 s1 n2) x3 m s.2.1 s.2.2.2=some r∧(OSl aF 123 1 s.1 D1 pv2_0 s1)∧(OSl aJ 130 1 s.1 s.2.2.1 v4 s.2.1)∧(s.1 b_5=some (.cells #[iV p4] 3 (0,0)))∧(HSl aM 126 1 s.1 D6 pv2_1 s3 s4.toNat [v4])) (Φ_5,x3.Levels,D7,0) N ⟨h,k2,h7,k5,h6⟩ (sx [0,0,0,0,0,0,0] [0,0,0,0,0]) (fun n3 ih3 s hm=>?_)
  obtain ⟨Φ_6,s5,D8,s6⟩:=s
  obtain ⟨h,k2,k7,k8,k6⟩:=hm
  dsimp only at h k2 k7 k8 k6 ⊢
  unfold dK at h
  refine att 5 [] rfl ?_
  refine ch h rfl ?_ ?_ <;> intro h
  ·refine att 8 [] rfl ?_
   obtain ⟨x4,hx4,h⟩:=bs h
   obtain ⟨cs3,F4,D9,h8,r4,kf3,sp4⟩:=k7.focus hx4
   obtain ⟨v5,D10,rfl,rfl,h9⟩:=r4
   refine wtL [ob v5,D10,D9,ob v4,D6,[b_5],ob pv2_0,D1,ob pv2_1] (sre [1] [ob v5,D10,D9] rfl (by simpa [List.append_assoc] using sp4))<|WT.mix (Kn w0 Φ_6 (ob v4) [(b_6,.cells #[v4] 126 (0,0)),(b_4,.cells #[pv3_0,iV p3.Next] 57 (0,0)),(b_3,.cells #[pv2_0,pv2_1] 43 (0,0)),(b_2,.cells #[pv1_0,pv1_1] 52 (0,0)),(b_1,.cells #[.string p0.Name,pv0_0] 47 (0,0))]) (fun i=>match i with | 13=>false | _=>true) d7 (fun _ h=>h.drew)<|mq 0 rfl (by kernel_rfl) (kn Kf.id (am [0,1,2,3,4] rfl)) (aH gq rfl) rfl ?_
   refine mq 1 rfl (by kernel_rfl) (kn Kf.id (am [0,1,2,3,4] rfl)) (bk yK rfl (fun w1 hw=>hw.rgO (i:=0) rfl 0 1 [v4] rfl)) rfl<|ma 2 rfl (by kernel_rfl) (kn Kf.id (am [0,1,2,3,4] rfl)) rfl<|mq 3 rfl (by kernel_rfl) (kn Kf.id (am [0,1,2,3,4] rfl)) (aH gq rfl) rfl<|mq 4 rfl (by kernel_rfl) (kn Kf.id (am [0,1,2,3,4] rfl)) (bk yK rfl (fun w1 hw=>hw.rgO (i:=0) rfl 0 1 [v4] rfl)) rfl<|ma 5 rfl (by kernel_rfl) (kn Kf.id (am [0,1,2,3,4] rfl)) rfl ?_
   refine mq 6 rfl (by kernel_rfl) (kn Kf.id (am [0,1,2,3,4] rfl)) (fH lW rfl rfl h8 hx4) rfl<|mq 7 rfl (by kernel_rfl) (kn Kf.id (am [0,1,2,3,4] rfl)) (aH j8 rfl) rfl<|mq 8 rfl (by kernel_rfl) (kn Kf.id (am [0,1,2,3,4] rfl)) (bk CC rfl (fun w1 hw=>hw.rg h8.hb (h8.rg.of_eq 0 1 rfl rfl:rg _ _ _ [v5]))) rfl<|mq 9 rfl (by kernel_rfl) (kn Kf.id (am [0,1,2,3,4] rfl)) (uQ rfl) rfl ?_
   obtain ⟨x5,hx5,h⟩:=bs h
   refine WM.one 10 (by kernel_rfl) (mc rfl (fun _ v Φx D w1 hq hw=>Kn.of (Kf.id.st hq.2.1 (hq.1.r (i:=1) rfl)) (am [0,1,2,3,4] rfl) hw) (aU (js:=[0,0]) (R:=[D9,ob v4,D6,[b_5],ob pv2_0,D1,ob pv2_1]) Mp rfl rfl (fun w1 hw ap hl=>mS N (bx hw ap hl) x4.Toks (fun a0=>gm N a0 p4) h9 Mj (fun hle' hin a0=>fun f0 f1=>fun hr=>uX N (ba hin) a0 p4 f0 f1 (hle' _ _ ((ap.q 3 rfl) _ (by simp)) k8) hr)  hx5)) rfl ?_)
   rintro v6 Φ_7 F5 ⟨ap3,fr4,v7,D11,rfl,rfl,h10⟩
   replace k2:=k2.fr fr4 (ap3.q 4 rfl) (ap3.q 5 rfl)
   replace k6:=k6.fr fr4 (ap3.q 6 rfl) (ap3.q 2 rfl)
   replace h8:=h8.fr fr4 (ap3.q 1 rfl) (ap3.q 0 rfl)
   replace k8:=fr4 _ _ ((ap3.q 3 rfl) _ (by simp)) k8
   have kf2:=(Kf.id (F:=(ob v4)):Kf Φ_6 _ _).st fr4 (ap3.q 1 rfl)
   refine mqT 11 [12,13] rfl (by kernel_rfl) (kn kf2 (am [0,1,2,3,4] rfl)) (fH lW rfl rfl h8 hx4) rfl<|mq 12 rfl (by kernel_rfl) (kn kf2 (am [0,1,2,3,4] rfl)) (aH j8 rfl) rfl ?_
   refine WM.one 13 (by kernel_rfl) (mu rfl (fun hc=>by cases hc) (us [3] [ob v6,D11,D9,D6,[b_5],ob pv2_0,D1,ob pv2_1] 0 aJ.lasts Ef rfl rfl h10.one rfl h8 rfl (fun ap=>ap.q 2 rfl)) rfl ?_)
   rintro Φ_8 D12 ⟨⟨ap4,fr5⟩,h11⟩
   replace k2:=k2.fr fr5 (ap4.q 5 rfl) (ap4.q 6 rfl)
   replace k6:=k6.fr fr5 (ap4.q 7 rfl) (ap4.q 3 rfl)
   replace h10:=h10.fr fr5 (ap4.q 0 rfl) (ap4.q 1 rfl)
   replace k8:=fr5 _ _ ((ap4.q 4 rfl) _ (by simp)) k8
   refine WM.nil (by kernel_rfl)<|att 5 [] rfl ?_
   have r5:aJ Φ_8 _ [v6] (⟨x5⟩:ae):=⟨v6,D11,rfl,rfl,h10⟩
   obtain ⟨D13,h12,sp5⟩:=h11.unfocus r5 (aJ.knows _ _ _ _ r5)
   refine wtL [D13,ob v4,D6,[b_5],ob pv2_0,D1,ob pv2_1] (smg [1,1,1] rfl (by simpa [List.append_assoc,bm] using sp5)) ?_
   exact lb [1,0,0,0,0,0,0] [0,0,0,0,0] (ih3 (_,_,_,_) ⟨h,k2,h12,k8,k6⟩)
  refine xt rfl<|WT.mix (Kn w0 Φ_6 ([b_5]++ob v4) [(b_6,.cells #[v4] 126 (0,0)),(b_4,.cells #[pv3_0,iV p3.Next] 57 (0,0)),(b_3,.cells #[pv2_0,pv2_1] 43 (0,0)),(b_2,.cells #[pv1_0,pv1_1] 52 (0,0)),(b_1,.cells #[.string p0.Name,pv0_0] 47 (0,0))]) (fun i=>match i with | 16=>false | _=>true) d7 (fun _ h=>h.drew)<|mqT 0 [6,16] rfl (by kernel_rfl) (kn Kf.id (am [0,1,2,3,4] rfl)) (aw Ia rfl (fun w1 hw=>hw.rgO (i:=4) rfl 0 2 [.string p0.Name,pv0_0] rfl) rfl) rfl ?_
  refine mqT 1 [6,16] rfl (by kernel_rfl) (kn Kf.id (am [0,1,2,3,4] rfl)) (aw ET rfl (fun w1 hw=>hw.rgO (i:=3) rfl 0 2 [pv1_0,pv1_1] rfl) rfl) rfl<|mqT 2 [6,16] rfl (by kernel_rfl) (kn Kf.id (am [0,1,2,3,4] rfl)) (aw Cb rfl (fun w1 hw=>hw.rgO (i:=2) rfl 0 2 [pv2_0,pv2_1] rfl) rfl) rfl<|mqT 3 [6,16] rfl (by kernel_rfl) (kn Kf.id (am [0,1,2,3,4] rfl)) (aw Cp rfl (fun w1 hw=>hw.rgO (i:=1) rfl 0 2 [pv3_0,iV p3.Next] rfl) rfl) rfl ?_
  refine mqT 4 [6,16] rfl (by kernel_rfl) (kn Kf.id (am [0,1,2,3,4] rfl)) (bk xI rfl (fun w1 hw=>hw.rg (List.mem_append.2 (.inl (by simp))) ((g9 k8).of_eq 0 1 rfl rfl:rg _ _ _ [iV p4]))) rfl<|mqT 5 [6,16] rfl (by kernel_rfl) (kn Kf.id (am [0,1,2,3,4] rfl)) (jD rfl) rfl<|mqT 7 [8,13,14,15,16] rfl (by kernel_rfl) (kn Kf.id (am [0,1,2,3,4] rfl)) (aH gq rfl) rfl<|mqT 8 [13,14,15,16] rfl (by kernel_rfl) (kn Kf.id (am [0,1,2,3,4] rfl)) (bk yK rfl (fun w1 hw=>hw.rgO (i:=0) rfl 0 1 [v4] rfl)) rfl ?_
  refine mqT 9 [10,11,12,13,14,15,16] rfl (by kernel_rfl) (kn Kf.id (am [0,1,2,3,4] rfl)) (aH gq rfl) rfl<|mqT 10 [11,12,13,14,15,16] rfl (by kernel_rfl) (kn Kf.id (am [0,1,2,3,4] rfl)) (bk yK rfl (fun w1 hw=>hw.rgO (i:=0) rfl 0 1 [v4] rfl)) rfl<|mqT 11 [12,13,14,15,16] rfl (by kernel_rfl) (kn Kf.id (am [0,1,2,3,4] rfl)) (Ip lW rfl rfl (k7.rslG aJ.gives)) rfl<|mqT 12 [13,14,15,16] rfl (by kernel_rfl) (kn Kf.id (am [0,1,2,3,4] rfl)) (Ie rfl rfl) rfl ?_
  obtain ⟨x6,hx6,h⟩:=bs h
  obtain ⟨cs4,F6,D14,h13,r6,kf4,sp6⟩:=k7.focus hx6
  obtain ⟨v8,D15,rfl,rfl,h14⟩:=r6
  refine WM.conv (S':=St w0 Φ_6 [(b_6,.cells #[v4] 126 (0,0)),(b_4,.cells #[pv3_0,iV p3.Next] 57 (0,0)),(b_3,.cells #[pv2_0,pv2_1] 43 (0,0)),(b_2,.cells #[pv1_0,pv1_1] 52 (0,0)),(b_1,.cells #[.string p0.Name,pv0_0] 47 (0,0))] [ob v8,D15,D14,ob v4,D6,[b_5],ob pv2_0,D1,ob pv2_1]) (fun w1 hw=>hw.re (js:=[1]) (Bs:=[ob v8,D15,D14]) rfl (by simpa [List.append_assoc] using sp6))<|mqT 13 [14,15,16] rfl (by kernel_rfl) (kn Kf.id (am [0,1,2,3,4] rfl)) (fH lW rfl rfl h13 hx6) rfl ?_
  refine mqT 14 [15,16] rfl (by kernel_rfl) (kn Kf.id (am [0,1,2,3,4] rfl)) (aH j8 rfl) rfl<|mq 15 rfl (by kernel_rfl) (kn Kf.id (am [0,1,2,3,4] rfl)) (bk CC rfl (fun w1 hw=>hw.rg (List.mem_append.2 (.inr h13.hb)) (h13.rg.of_eq 0 1 rfl rfl:rg _ _ _ [v8]))) rfl ?_
  obtain ⟨x7,hx7,h⟩:=bs h
  refine WM.one 6 (by kernel_rfl) (mc rfl (fun _ v Φx D w1 hq hw=>Kn.of (Kf.id.st hq.2.1 (Dj.app (hq.1.r (i:=5) rfl) (hq.1.r (i:=3) rfl))) (am [0,1,2,3,4] rfl) hw) (aU (js:=[]) (R:=[ob v8,D15,D14,ob v4,D6,[b_5],ob pv2_0,D1,ob pv2_1]) Ll rfl rfl (fun w1 hw ap hl=>xr N (ba hw.fro) p0 p1 (⟨s1,s3⟩:aG) p3 p4 s4 (ph0_0.y hw.up) (ph1_1.y hw.up) (k2.rslG aF.gives) (ph3_0.y hw.up)  hx7)) rfl ?_)
  rintro v9 Φ_9 F7 ⟨ap5,fr6,v10,D16,v11,D17,v12,G1,v13,G2,v14,G3,v15,G4,rfl,rfl,h15,i1,h16,i2,h17,i3,h18,i4,h19,i5,h20,i6⟩
  replace k2:=k2.fr fr6 (ap5.q 6 rfl) (ap5.q 7 rfl)
  replace k6:=k6.fr fr6 (ap5.q 8 rfl) (ap5.q 4 rfl)
  replace h13:=h13.fr fr6 (ap5.q 3 rfl) (ap5.q 2 rfl)
  replace h14:=h14.fr fr6 (ap5.q 0 rfl) (ap5.q 1 rfl)
  replace k8:=fr6 _ _ ((ap5.q 5 rfl) _ (by simp)) k8
  obtain ⟨x8,hx8,h⟩:=bs h
  refine WM.one 16 (by kernel_rfl) (mc rfl (fun hc=>by cases hc) (aU (js:=[2,2]) (R:=[ob v10,ob v11,D14,ob v4,D6,[b_5],ob pv2_0,D1,ob pv2_1]) Mc rfl rfl (fun w1 hw ap hl=>ug N (bx hw ap hl) x7 x6.Toks (-1) (h15.rsl.x (Dj.app (ap.q 0 rfl) (Dj.sub (ap.o ph0_0.old) i1))) (h16.rsl.x (Dj.app (ap.q 1 rfl) (Dj.sub (ap.o ph0_0.old) i2))) (h17.x (Dj.sub (ap.o ph1_1.old) i3)) (h18.x (Dj.sub (ap.o ph1_1.old) i4)) (h19.x (Dj.sub (Dj.app (ap.q 6 rfl) (ap.q 7 rfl)) i5)) (h20.x (Dj.sub (ap.o ph3_0.old) i6)) h14  hx8)) rfl ?_)
  rintro v16 Φ_10 F8 ⟨ap6,fr7,D18,rfl,rfl,h21⟩
  replace k2:=k2.fr fr7 (ap6.q 6 rfl) (ap6.q 7 rfl)
  replace k6:=k6.fr fr7 (ap6.q 8 rfl) (ap6.q 4 rfl)
  replace h13:=h13.fr fr7 (ap6.q 3 rfl) (ap6.q 2 rfl)
  replace k8:=fr7 _ _ ((ap6.q 5 rfl) _ (by simp)) k8
  refine WM.nil (by kernel_rfl)<|att 5 [] rfl ?_
  have r7:aJ Φ_10 _ [v8] (⟨x8⟩:ae):=⟨v8,D18,rfl,rfl,h21⟩
  obtain ⟨D19,h22,sp7⟩:=h13.unfocus r7 (aJ.knows _ _ _ _ r7)
  refine wtL [D19,ob v10,ob v11,ob v4,D6,[b_5],ob pv2_0,D1,ob pv2_1] (smg [0,0,2] rfl (by simpa [List.append_assoc,bm] using sp7)) ?_
  have r8:aM Φ_10 _ [v4] (⟨(s5.set (wz ((s5.length:Int) - 1)).toNat (⟨x8⟩:ae))⟩:aC):=⟨v4,D19,rfl,rfl,h22⟩
  obtain ⟨D20,h23,sp8⟩:=k6.unfocus r8 (aM.knows _ _ _ _ r8)
  refine wtL [D20,ob v10,ob v11,[b_5],ob pv2_0,D1,ob pv2_1] (smg [3,0,2] rfl (by simpa [List.append_assoc,bm] using sp8)) ?_
  exact lb [3,3,3,3,0] [1,1,1,1] (ih2 (_,_,_,_) ⟨h,k2,h23,k8⟩)
 refine xt rfl ?_
 refine WT.fin hF ao.none (fun w1 hw=>?_)
 cases h
 refine ce (js:=[1,1,1,1]) hw rfl ⟨D1,D5,rfl,rfl,k2,k4⟩
end Go.Proofs.YtkdffjpgnhobhaaGreat
