/- Printed by a program of ours: each Go function computes its Lean function. -/
import Derived.Test.YtiljnppocjgkkaaGreatProg
import Derived.Test.YtiljnppocjgkkaaGreatWExactMemSoundWalk4
namespace Go.Proofs.YtiljnppocjgkkaaGreat
open Eng Tryz
open Go.RowKit (Below)
set_option linter.unusedVariables false
set_option linter.unusedSimpArgs false

set_option maxRecDepth 100000
set_option maxHeartbeats 1000000
variable {Ψ Φ:Hp} {pv0_0 pv0_1 pv0_2 pv0 pv1 pv1_0:Value} {pG0_0 pG0_1 pG0_2 pG0 pG1 pG1_0 pD0:List Nat} {pbc0:Nat} (N:Nat)
theorem to  (w0:af Ψ Φ []) (p0:bk)  {r:Bool} (h:nu N p0=some r) :
  CB w0 prog 193 [.agg [iV p0.K,.string p0.S,iV p0.V.K,iV p0.V.N,.string p0.V.S].toArray] (.bool r):=by
 refine eN func193 rfl ntmps193 rfl w0 fun hF=>?_
 unfold nu at h
 refine sr<|lbx rfl fun b_1=>art 14 [0,0] rfl ?_
 refine ch h rfl ?_ ?_ <;> intro h
 ·refine atr 4 [1,0] rfl<|qc h (AO N · p0.S ·) rfl rfl rfl fun x1 h=>la rfl ?_
  obtain ⟨b1,hb_1,h⟩:=bs h
  refine WL.cutN 5 [(15,.bool b1),(2,.bool false)] ?_ (fun K=>?_)
  rotate_left
  ·refine sp 10 hb_1 rfl (fun hb_1=>?_) fun hb_1=>?_
   ·refine arr 2 [2,3] rfl<|ly rfl rfl<|lq (cA (vs:=[]) (C:=#[iV 0,iV 0,.string (⟨#[]⟩:ByteArray)]) wD iw rfl (au)) rfl<|ly rfl rfl<|lq (Cy kr rfl rfl rfl (r:=bb p0.V (⟨0,0,(⟨#[]⟩:ByteArray)⟩:aP)) rfl) rfl<|la rfl ?_
    cases hb_1
    exact ku K
   ·refine arr 5 [] rfl ?_
    cases hb_1
    exact ku K
  refine la rfl<|en ?_
  exact rt hF h
 refine att 5 [] rfl ?_
 refine ch h rfl ?_ ?_ <;> intro h
 ·refine atr 6 [1,0] rfl ?_
  obtain ⟨b2,hb_2,h⟩:=bs h
  refine WL.cutN 4 [(25,.bool b2),(2,.bool false)] ?_ (fun K=>?_)
  rotate_left
  ·refine sp 21 hb_2 rfl (fun hb_2=>?_) fun hb_2=>?_
   ·refine arr 2 [2,3] rfl<|ly rfl rfl<|qc hb_2 (tQ N · p0.V ·) rfl rfl rfl fun x2 hb_2=>la rfl ?_
    cases hb_2
    exact ku K
   ·refine arr 4 [] rfl ?_
    cases hb_2
    exact ku K
  refine la rfl<|en ?_
  exact rt hF h
 refine att 5 [] rfl ?_
 refine ch h rfl ?_ ?_ <;> intro h
 ·refine atr 6 [1,0] rfl ?_
  obtain ⟨b3,hb_3,h⟩:=bs h
  refine WL.cutN 5 [(36,.bool b3),(2,.bool false)] ?_ (fun K=>?_)
  rotate_left
  ·refine sp 31 hb_3 rfl (fun hb_3=>?_) fun hb_3=>?_
   ·refine arr 2 [2,3] rfl<|ly rfl rfl<|lq (cA (vs:=[]) (C:=#[iV 0,iV 0,.string (⟨#[]⟩:ByteArray)]) wD iw rfl (au)) rfl<|ly rfl rfl<|lq (Cy kr rfl rfl rfl (r:=bb p0.V (⟨0,0,(⟨#[]⟩:ByteArray)⟩:aP)) rfl) rfl<|la rfl ?_
    cases hb_3
    exact ku K
   ·refine arr 5 [] rfl ?_
    cases hb_3
    exact ku K
  refine la rfl<|en ?_
  exact rt hF h
 refine att 6 [] rfl ?_
 exact rt hF h
theorem AD (w0:af Ψ Φ []) (p0:ao) (ph0_0:RSl cu 5 Ψ pG0_0 pv0_0 p0.Args) {r:Bool} (h:qi N p0=some r) :
  CB w0 prog 155 [.agg [.string p0.Kind,pv0_0,.bool p0.Not].toArray] (.bool r):=by
 refine eN func155 rfl ntmps155 rfl w0 fun hF=>?_
 unfold qi at h
 refine sr<|lbx rfl fun b_1=>arr 7 [0,0] rfl<|qc h (i7 N · p0.Kind ·) rfl rfl rfl fun x1 h=>arr 2 [] rfl ?_
 obtain ⟨b1,hb_1,h⟩:=bs h
 refine WL.cutN 5 [(14,.bool b1),(1,pQ b_1)] ?_ (fun K=>?_)
 rotate_left
 ·refine sp 9 hb_1 rfl (fun hb_1=>?_) fun hb_1=>?_
  ·refine arr 5 [] rfl ?_
   cases hb_1
   exact ku K
  ·refine arr 2 [1,0] rfl<|ly rfl rfl<|lnr ph0_0 rfl<|arr 2 [] rfl ?_
   cases hb_1
   exact ku K
 refine en ?_
 refine ch h rfl ?_ ?_ <;> intro h
 ·refine att 4 [] rfl ?_
  exact rt hF h
 refine atr 6 [1,0] rfl<|lnr ph0_0 rfl<|art 3 [] rfl ?_
 refine lin (σ:=Int) (fun s=>[(16,pv0_0),(17,iV (p0.Args.length:Int)),(18,iV s)]) (fun s=>St w0 Φ [] []) (fun m s=>fC N p0 m s=some r) (0) N h (sx [] []) (fun n1 ih1 s hm=>?_)
 revert hm; revert s; intro s1 hm
 have h:fC N p0 (n1+1) s1=some r:=hm
 show WT _ _ [(16,pv0_0),(17,iV (p0.Args.length:Int)),(18,iV s1)] (St w0 Φ [] [])
 unfold fC at h
 refine att 5 [] rfl ?_
 refine ch h rfl ?_ ?_ <;> intro h
 ·refine atr 5 [] rfl ?_
  obtain ⟨x2,hx2,h⟩:=bs h
  obtain ⟨cs1,F1,-,g1,hb1,hs1,r1⟩:=ph0_0.el (a7 hx2).2.2
  obtain ⟨rfl,-⟩:=r1
  refine lia ph0_0 hx2 rfl<|lhx 0 5 g1 rfl<|lnz mH rfl fun b_2=>soN 0 oV rfl ⟨rfl,rfl,rfl,rfl,rfl,trivial⟩ rfl ?_
  refine arr 4 [5] rfl<|qc h (to N · x2 ·) rfl rfl rfl fun x3 h=>la rfl<|en ?_
  refine ch h rfl ?_ ?_ <;> intro h
  ·refine att 4 [] rfl ?_
   exact rt hF h
  refine att 6 [] rfl ?_
  exact lb [] [] (ih1 _ h)
 refine att 5 [] rfl ?_
 exact rt hF h
theorem zg (w0:af Ψ Φ []) (p0:ac) (ph0_0:RSl bt 3 Ψ pG0_0 pv0_0 p0.Pats) (ph0_1:RSl bl 11 Ψ pG0_1 pv0_1 p0.Conds) (ph0_2:RSl cX 5 Ψ pG0_2 pv0_2 p0.Acts) {r:Bool} (h:ov N p0=some r) :
  CB w0 prog 104 [.agg [.string p0.Name,iV p0.Sal,pv0_0,pv0_1,pv0_2].toArray] (.bool r):=by
 refine eN func104 rfl ntmps104 rfl w0 fun hF=>?_
 unfold ov at h
 refine sr<|lbx rfl fun b_1=>arr 7 [2,0] rfl<|lnr ph0_0 rfl<|qc h (cq N · (p0.Pats.length:Int) 1 6 ·) rfl rfl rfl fun x1 h=>arr 2 [] rfl ?_
 obtain ⟨b1,hb_1,h⟩:=bs h
 refine WL.cutN 5 [(15,.bool b1),(1,pQ b_1)] ?_ (fun K=>?_)
 rotate_left
 ·refine sp 10 hb_1 rfl (fun hb_1=>?_) fun hb_1=>?_
  ·refine arr 5 [] rfl ?_
   cases hb_1
   exact ku K
  ·refine ly rfl rfl<|ld5 mQ 0 rfl<|ly rfl rfl<|qd hb_1 (mP N · p0 ph0_0 ph0_1 ph0_2 ·) rfl rfl rfl fun x2 hb_1=>ly rfl rfl<|qc hb_1 (cq N · x2 1 3 ·) rfl rfl rfl fun x3 hb_1=>arr 2 [] rfl ?_
   cases hb_1
   exact ku K
 refine en ?_
 refine ch h rfl ?_ ?_ <;> intro h
 ·refine att 4 [] rfl ?_
  exact rt hF h
 refine atr 6 [2,0] rfl<|lnr ph0_0 rfl<|art 3 [] rfl ?_
 refine lin (σ:=Int) (fun s=>[(1,pQ b_1),(17,pv0_0),(18,iV (p0.Pats.length:Int)),(19,iV s)]) (fun s=>St w0 Φ [(b_1,.cells #[.string p0.Name,iV p0.Sal,pv0_0,pv0_1,pv0_2] 109 (0,0))] []) (fun m s=>dI N p0 m s=some r) (0) N h (sx [] [0]) (fun n1 ih1 s hm=>?_)
 revert hm; revert s; intro s1 hm
 have h:dI N p0 (n1+1) s1=some r:=hm
 show WT _ _ [(1,pQ b_1),(17,pv0_0),(18,iV (p0.Pats.length:Int)),(19,iV s1)] (St w0 Φ [(b_1,.cells #[.string p0.Name,iV p0.Sal,pv0_0,pv0_1,pv0_2] 109 (0,0))] [])
 unfold dI at h
 refine att 5 [] rfl ?_
 refine ch h rfl ?_ ?_ <;> intro h
 ·refine atr 6 [] rfl ?_
  obtain ⟨x4,hx4,h⟩:=bs h
  obtain ⟨cs1,F1,-,g1,hb1,hs1,r1⟩:=ph0_0.el (a7 hx4).2.2
  obtain ⟨v1,G1,rfl,hq1,h1⟩:=r1
  obtain rfl:=hq1.symm
  refine lia ph0_0 hx4 rfl<|lhx 0 3 g1 rfl<|lnz mN rfl fun b_2=>la rfl<|soN 0 pX rfl ⟨rfl,h1.one,rfl,trivial⟩ rfl ?_
  refine en<|sq<|WT.draw mixed (by kernel_rfl) (fun _ h=>h.drew)<|qq (aq sY rfl (fun w1 hw=>hw.rgO (i:=0) rfl 0 3 [.string x4.Kind,v1,.bool x4.Not] rfl) rfl) rfl ?_
  obtain ⟨x5,hx5,h⟩:=bs h
  refine qp (bH HG rfl (fun w1 hw=>AD N (ba hw.in0) x4 h1 hx5)) rfl<|aqq 2 [] rfl ?_
  obtain ⟨b2,hb_2,h⟩:=bs h
  refine WQ.cutN 8 [(35,.bool b2),(1,pQ b_1),(17,pv0_0),(18,iV (p0.Pats.length:Int)),(19,iV s1)] ?_ (fun K=>?_)
  rotate_left
  ·refine WQ.split (d:=27) rfl (fun c4=>?_) (fun c4=>?_)
   ·replace hb_2:=fk hb_2 c4
    refine aqq 8 [] rfl ?_
    cases hb_2
    exact kq K
   ·replace hb_2:=fg hb_2 c4
    refine aqq 4 [2,0,37] rfl<|WQ.yes rfl rfl ?_
    obtain ⟨x6,hx6,hb_2⟩:=bs hb_2
    refine qp (bH DZ rfl (fun w1 hw=>mP N (ba hw.in0) p0 ph0_0 ph0_1 ph0_2 hx6)) rfl<|WQ.yes rfl rfl<|qq (I5 rfl rfl) rfl<|WQ.yes rfl rfl<|qq (FT HE rfl rfl) rfl<|WQ.q (pw rfl rfl) rfl rfl rfl ?_
    cases hb_2
    exact kq K
  refine WQ.nil ?_
  refine ch h rfl ?_ ?_ <;> intro h
  ·refine att 4 [] rfl ?_
   exact rt hF h
  refine att 6 [] rfl ?_
  exact lb [] [1] (ih1 _ h)
 refine att 5 [] rfl ?_
 exact rt hF h
theorem jn  (w0:af Ψ Φ []) (p0:bk)  {r:Bool} (h:gK N p0=some r) :
  CB w0 prog 156 [.agg [iV p0.K,.string p0.S,iV p0.V.K,iV p0.V.N,.string p0.V.S].toArray] (.bool r):=by
 refine eN func156 rfl ntmps156 rfl w0 fun hF=>?_
 unfold gK at h
 refine sr<|lbx rfl fun b_1=>arr 8 [0,0] rfl ?_
 obtain ⟨b1,hb_1,h⟩:=bs h
 refine WL.cutN 3 [(9,.bool b1),(2,.bool false)] ?_ (fun K=>?_)
 rotate_left
 ·refine sp 6 hb_1 rfl (fun hb_1=>?_) fun hb_1=>?_
  ·refine ly rfl rfl<|ld5 Bc 0 rfl<|ly rfl rfl<|qc hb_1 (to N · p0 ·) rfl rfl rfl fun x1 hb_1=>la rfl ?_
   cases hb_1
   exact ku K
  ·refine arr 3 [] rfl ?_
   cases hb_1
   exact ku K
 refine la rfl<|en ?_
 exact rt hF h
theorem zm  (w0:af Ψ Φ []) (p0:bz)  {r:Bool} (h:nW N p0=some r) :
  CB w0 prog 105 [.agg [iV p0.Op,iV p0.L.K,.string p0.L.S,iV p0.L.V.K,iV p0.L.V.N,.string p0.L.V.S,iV p0.R.K,.string p0.R.S,iV p0.R.V.K,iV p0.R.V.N,.string p0.R.V.S].toArray] (.bool r):=by
 refine eN func105 rfl ntmps105 rfl w0 fun hF=>?_
 unfold nW at h
 refine sr<|lbx rfl fun b_1=>arr 6 [0,0] rfl<|qc h (cq N · p0.Op 1 3 ·) rfl rfl rfl fun x1 h=>la rfl ?_
 obtain ⟨b1,hb_1,h⟩:=bs h
 refine WL.cutN 4 [(10,.bool b1),(1,pQ b_1),(2,.bool false)] ?_ (fun K=>?_)
 rotate_left
 ·refine sp 6 hb_1 rfl (fun hb_1=>?_) fun hb_1=>?_
  ·refine arr 2 [1,5] rfl<|ly rfl rfl<|qc hb_1 (jn N · p0.L ·) rfl rfl rfl fun x2 hb_1=>la rfl ?_
   cases hb_1
   exact ku K
  ·refine arr 4 [] rfl ?_
   cases hb_1
   exact ku K
 refine la rfl ?_
 obtain ⟨b2,hb_2,h⟩:=bs h
 refine WL.cutN 4 [(15,.bool b2),(2,.bool false)] ?_ (fun K=>?_)
 rotate_left
 ·refine sp 11 hb_2 rfl (fun hb_2=>?_) fun hb_2=>?_
  ·refine arr 2 [6,5] rfl<|ly rfl rfl<|qc hb_2 (jn N · p0.R ·) rfl rfl rfl fun x3 hb_2=>la rfl ?_
   cases hb_2
   exact ku K
  ·refine arr 4 [] rfl ?_
   cases hb_2
   exact ku K
 refine la rfl<|en ?_
 exact rt hF h
theorem yR  (w0:af Ψ Φ []) (p0:br)  {r:Bool} (h:oB N p0=some r) :
  CB w0 prog 194 [.agg [.string p0.Op,iV p0.L.K,.string p0.L.S,iV p0.L.V.K,iV p0.L.V.N,.string p0.L.V.S,iV p0.R.K,.string p0.R.S,iV p0.R.V.K,iV p0.R.V.N,.string p0.R.V.S].toArray] (.bool r):=by
 refine eN func194 rfl ntmps194 rfl w0 fun hF=>?_
 unfold oB at h
 refine sr<|lbx rfl fun b_1=>art 14 [0,0] rfl ?_
 refine ch h rfl ?_ ?_ <;> intro h
 ·refine atr 4 [1,5] rfl<|qc h (jn N · p0.L ·) rfl rfl rfl fun x1 h=>la rfl ?_
  obtain ⟨b1,hb_1,h⟩:=bs h
  refine WL.cutN 5 [(15,.bool b1),(2,.bool false)] ?_ (fun K=>?_)
  rotate_left
  ·refine sp 10 hb_1 rfl (fun hb_1=>?_) fun hb_1=>?_
   ·refine arr 2 [6,5] rfl<|ly rfl rfl<|lq (cA (vs:=[]) (C:=#[iV 0,.string (⟨#[]⟩:ByteArray),iV 0,iV 0,.string (⟨#[]⟩:ByteArray)]) Gn mH rfl (au)) rfl<|ly rfl rfl<|lq (Cy Ea rfl rfl rfl (r:=oc p0.R (⟨0,(⟨#[]⟩:ByteArray),(⟨0,0,(⟨#[]⟩:ByteArray)⟩:aP)⟩:bk)) rfl) rfl<|la rfl ?_
    cases hb_1
    exact ku K
   ·refine arr 5 [] rfl ?_
    cases hb_1
    exact ku K
  refine la rfl<|en ?_
  exact rt hF h
 refine att 6 [] rfl ?_
 refine cut (σ:=Bool) (fun s=>[(1,pQ b_1),(16,.bool s)]) (fun s=>St w0 Φ [(b_1,.cells #[.string p0.Op,iV p0.L.K,.string p0.L.S,iV p0.L.V.K,iV p0.L.V.N,.string p0.L.V.S,iV p0.R.K,.string p0.R.S,iV p0.R.V.K,iV p0.R.V.N,.string p0.R.V.S] 231 (0,0))] []) (fun s=>iq N p0 s=some r) (fun s hm=>?_) (fun K=>?_)
 ·clear h
  revert hm; revert s; intro s1 hm
  have h:iq N p0 s1=some r:=hm
  show WT _ _ [(1,pQ b_1),(16,.bool s1)] (St w0 Φ [(b_1,.cells #[.string p0.Op,iV p0.L.K,.string p0.L.S,iV p0.L.V.K,iV p0.L.V.N,.string p0.L.V.S,iV p0.R.K,.string p0.R.S,iV p0.R.V.K,iV p0.R.V.N,.string p0.R.V.S] 231 (0,0))] [])
  unfold iq at h
  refine ch h rfl ?_ ?_ <;> intro h
  ·refine atr 4 [1,5] rfl<|qc h (jn N · p0.L ·) rfl rfl rfl fun x2 h=>la rfl ?_
   obtain ⟨b2,hb_2,h⟩:=bs h
   refine WL.cutN 4 [(26,.bool b2)] ?_ (fun K=>?_)
   rotate_left
   ·refine sp 22 hb_2 rfl (fun hb_2=>?_) fun hb_2=>?_
    ·refine arr 2 [6,5] rfl<|ly rfl rfl<|qc hb_2 (jn N · p0.R ·) rfl rfl rfl fun x3 hb_2=>la rfl ?_
     cases hb_2
     exact ku K
    ·refine arr 4 [] rfl ?_
     cases hb_2
     exact ku K
   refine la rfl<|en ?_
   exact rt hF h
  refine att 6 [] rfl ?_
  exact rt hF h
 refine ch h rfl ?_ ?_ <;> intro h
 ·refine WT.skip ?_
  exact wo [] [0] (K _ h)
 refine att 4 [] rfl ?_
 exact wo [] [0] (K _ h)
theorem pD (w0:af Ψ Φ []) (p0:bX) (ph0_0:RSl cn 11 Ψ pG0_0 pv0_0 p0.Args) {r:Bool} (h:jw N p0=some r) :
  CB w0 prog 157 [.agg [iV p0.Kind,.string p0.Name,pv0_0,iV p0.N,.string p0.Undo].toArray] (.bool r):=by
 refine eN func157 rfl ntmps157 rfl w0 fun hF=>?_
 unfold jw at h
 refine sr<|lbx rfl fun b_1=>arr 7 [1,0] rfl<|qc h (i7 N · p0.Name ·) rfl rfl rfl fun x1 h=>arr 2 [] rfl ?_
 obtain ⟨b1,hb_1,h⟩:=bs h
 refine WL.cutN 5 [(14,.bool b1),(1,pQ b_1)] ?_ (fun K=>?_)
 rotate_left
 ·refine sp 9 hb_1 rfl (fun hb_1=>?_) fun hb_1=>?_
  ·refine arr 5 [] rfl ?_
   cases hb_1
   exact ku K
  ·refine arr 2 [2,0] rfl<|ly rfl rfl<|lnr ph0_0 rfl<|arr 2 [] rfl ?_
   cases hb_1
   exact ku K
 refine en ?_
 refine ch h rfl ?_ ?_ <;> intro h
 ·refine att 4 [] rfl ?_
  exact rt hF h
 refine atr 6 [2,0] rfl<|lnr ph0_0 rfl<|art 3 [] rfl ?_
 refine lin (σ:=Int) (fun s=>[(16,pv0_0),(17,iV (p0.Args.length:Int)),(18,iV s)]) (fun s=>St w0 Φ [] []) (fun m s=>dR N p0 m s=some r) (0) N h (sx [] []) (fun n1 ih1 s hm=>?_)
 revert hm; revert s; intro s1 hm
 have h:dR N p0 (n1+1) s1=some r:=hm
 show WT _ _ [(16,pv0_0),(17,iV (p0.Args.length:Int)),(18,iV s1)] (St w0 Φ [] [])
 unfold dR at h
 refine att 5 [] rfl ?_
 refine ch h rfl ?_ ?_ <;> intro h
 ·refine atr 5 [] rfl ?_
  obtain ⟨x2,hx2,h⟩:=bs h
  obtain ⟨cs1,F1,-,g1,hb1,hs1,r1⟩:=ph0_0.el (a7 hx2).2.2
  obtain ⟨rfl,-⟩:=r1
  refine lia ph0_0 hx2 rfl<|lhx 0 11 g1 rfl<|lnz xg rfl fun b_2=>soN 0 AV rfl ⟨rfl,rfl,rfl,rfl,rfl,rfl,rfl,rfl,rfl,rfl,rfl,trivial⟩ rfl ?_
  refine arr 4 [11] rfl<|qc h (yR N · x2 ·) rfl rfl rfl fun x3 h=>la rfl<|en ?_
  refine ch h rfl ?_ ?_ <;> intro h
  ·refine att 4 [] rfl ?_
   exact rt hF h
  refine att 6 [] rfl ?_
  exact lb [] [] (ih1 _ h)
 refine att 5 [] rfl ?_
 exact rt hF h
theorem zr  (w0:af Ψ Φ []) (p0:ByteArray)  {r:Bool} (h:ra N p0=some r) :
  CB w0 prog 158 [.string p0] (.bool r):=by
 refine eN func158 rfl ntmps158 rfl w0 fun hF=>?_
 unfold ra at h
 refine atr 9 [] rfl ?_
 obtain ⟨b1,hb_1,h⟩:=bs h
 refine WL.cutN 3 [(8,.bool b1),(2,.bool false)] ?_ (fun K=>?_)
 rotate_left
 ·refine sp 5 hb_1 rfl (fun hb_1=>?_) fun hb_1=>?_
  ·refine arr 3 [] rfl ?_
   cases hb_1
   exact ku K
  ·refine ly rfl rfl<|la rfl<|ly rfl rfl<|qc hb_1 (i7 N · p0 ·) rfl rfl rfl fun x1 hb_1=>la rfl ?_
   cases hb_1
   exact ku K
 refine la rfl<|en ?_
 exact rt hF h
theorem AB (w0:af Ψ Φ []) (p0:bX) (ph0_0:RSl cn 11 Ψ pG0_0 pv0_0 p0.Args) {r:Bool} (h:qy N p0=some r) :
  CB w0 prog 106 [.agg [iV p0.Kind,.string p0.Name,pv0_0,iV p0.N,.string p0.Undo].toArray] (.bool r):=by
 refine eN func106 rfl ntmps106 rfl w0 fun hF=>?_
 unfold qy at h
 refine sr<|lbx rfl fun b_1=>arr 8 [1,0] rfl ?_
 obtain ⟨b1,hb_1,h⟩:=bs h
 refine WL.cutN 5 [(12,.bool b1),(1,pQ b_1)] ?_ (fun K=>?_)
 rotate_left
 ·refine sp 7 hb_1 rfl (fun hb_1=>?_) fun hb_1=>?_
  ·refine arr 2 [2,0] rfl<|ly rfl rfl<|lnr ph0_0 rfl<|arr 2 [] rfl ?_
   cases hb_1
   exact ku K
  ·refine arr 5 [] rfl ?_
   cases hb_1
   exact ku K
 refine art 14 [0,0] rfl ?_
 refine ch h rfl ?_ ?_ <;> intro h
 ·refine atr 3 [5] rfl<|qd h (pD N · p0 ph0_0 ·) rfl rfl rfl fun x1 h=>la rfl ?_
  obtain ⟨b2,hb_2,h⟩:=bs h
  refine WL.cutN 4 [(23,.bool b2),(1,pQ b_1)] ?_ (fun K=>?_)
  rotate_left
  ·refine sp 19 hb_2 rfl (fun hb_2=>?_) fun hb_2=>?_
   ·refine arr 4 [3,0] rfl ?_
    cases hb_2
    exact ku K
   ·refine arr 4 [] rfl ?_
    cases hb_2
    exact ku K
  refine la rfl ?_
  obtain ⟨b3,hb_3,h⟩:=bs h
  refine WL.cutN 4 [(28,.bool b3)] ?_ (fun K=>?_)
  rotate_left
  ·refine sp 24 hb_3 rfl (fun hb_3=>?_) fun hb_3=>?_
   ·refine arr 4 [4,0] rfl ?_
    cases hb_3
    exact ku K
   ·refine arr 4 [] rfl ?_
    cases hb_3
    exact ku K
  refine la rfl<|en ?_
  exact rt hF h
 refine att 5 [] rfl ?_
 refine ch h rfl ?_ ?_ <;> intro h
 ·refine atr 4 [] rfl ?_
  obtain ⟨b4,hb_4,h⟩:=bs h
  refine WL.cutN 4 [(36,.bool b4),(1,pQ b_1)] ?_ (fun K=>?_)
  rotate_left
  ·refine sp 32 hb_4 rfl (fun hb_4=>?_) fun hb_4=>?_
   ·refine arr 2 [3,0] rfl<|ly rfl rfl<|qc hb_4 (cq N · p0.N 0 7 ·) rfl rfl rfl fun x2 hb_4=>la rfl ?_
    cases hb_4
    exact ku K
   ·refine arr 4 [] rfl ?_
    cases hb_4
    exact ku K
  refine la rfl ?_
  obtain ⟨b5,hb_5,h⟩:=bs h
  refine WL.cutN 4 [(41,.bool b5)] ?_ (fun K=>?_)
  rotate_left
  ·refine sp 37 hb_5 rfl (fun hb_5=>?_) fun hb_5=>?_
   ·refine arr 4 [4,0] rfl ?_
    cases hb_5
    exact ku K
   ·refine arr 4 [] rfl ?_
    cases hb_5
    exact ku K
  refine la rfl<|en ?_
  exact rt hF h
 refine att 5 [] rfl ?_
 refine ch h rfl ?_ ?_ <;> intro h
 ·refine atr 3 [5] rfl<|qd h (pD N · p0 ph0_0 ·) rfl rfl rfl fun x3 h=>la rfl ?_
  obtain ⟨b6,hb_6,h⟩:=bs h
  refine WL.cutN 4 [(50,.bool b6),(1,pQ b_1)] ?_ (fun K=>?_)
  rotate_left
  ·refine sp 46 hb_6 rfl (fun hb_6=>?_) fun hb_6=>?_
   ·refine arr 4 [3,0] rfl ?_
    cases hb_6
    exact ku K
   ·refine arr 4 [] rfl ?_
    cases hb_6
    exact ku K
  refine la rfl ?_
  obtain ⟨b7,hb_7,h⟩:=bs h
  refine WL.cutN 4 [(55,.bool b7)] ?_ (fun K=>?_)
  rotate_left
  ·refine sp 51 hb_7 rfl (fun hb_7=>?_) fun hb_7=>?_
   ·refine arr 2 [4,0] rfl<|ly rfl rfl<|qc hb_7 (zr N · p0.Undo ·) rfl rfl rfl fun x4 hb_7=>la rfl ?_
    cases hb_7
    exact ku K
   ·refine arr 4 [] rfl ?_
    cases hb_7
    exact ku K
  refine la rfl<|en ?_
  exact rt hF h
 refine att 5 [] rfl ?_
 refine ch h rfl ?_ ?_ <;> intro h
 ·refine atr 3 [5] rfl<|qd h (pD N · p0 ph0_0 ·) rfl rfl rfl fun x5 h=>la rfl ?_
  obtain ⟨b8,hb_8,h⟩:=bs h
  refine WL.cutN 4 [(64,.bool b8),(1,pQ b_1)] ?_ (fun K=>?_)
  rotate_left
  ·refine sp 60 hb_8 rfl (fun hb_8=>?_) fun hb_8=>?_
   ·refine arr 2 [3,0] rfl<|ly rfl rfl<|qc hb_8 (cq N · p0.N 0 100000 ·) rfl rfl rfl fun x6 hb_8=>la rfl ?_
    cases hb_8
    exact ku K
   ·refine arr 4 [] rfl ?_
    cases hb_8
    exact ku K
  refine la rfl ?_
  obtain ⟨b9,hb_9,h⟩:=bs h
  refine WL.cutN 4 [(69,.bool b9)] ?_ (fun K=>?_)
  rotate_left
  ·refine sp 65 hb_9 rfl (fun hb_9=>?_) fun hb_9=>?_
   ·refine arr 4 [4,0] rfl ?_
    cases hb_9
    exact ku K
   ·refine arr 4 [] rfl ?_
    cases hb_9
    exact ku K
  refine la rfl<|en ?_
  exact rt hF h
 refine att 6 [] rfl ?_
 refine cut (σ:=Bool) (fun s=>[(1,pQ b_1),(3,.bool b1),(70,.bool s)]) (fun s=>St w0 Φ [(b_1,.cells #[iV p0.Kind,.string p0.Name,pv0_0,iV p0.N,.string p0.Undo] 187 (0,0))] []) (fun s=>iT N p0 b1 s=some r) (fun s hm=>?_) (fun K=>?_)
 ·clear h
  revert hm; revert s; intro s1 hm
  have h:iT N p0 b1 s1=some r:=hm
  show WT _ _ [(1,pQ b_1),(3,.bool b1),(70,.bool s1)] (St w0 Φ [(b_1,.cells #[iV p0.Kind,.string p0.Name,pv0_0,iV p0.N,.string p0.Undo] 187 (0,0))] [])
  unfold iT at h
  refine ch h rfl ?_ ?_ <;> intro h
  ·refine atr 4 [] rfl ?_
   obtain ⟨b10,hb_10,h⟩:=bs h
   refine WL.cutN 4 [(78,.bool b10),(1,pQ b_1)] ?_ (fun K=>?_)
   rotate_left
   ·refine sp 74 hb_10 rfl (fun hb_10=>?_) fun hb_10=>?_
    ·refine arr 4 [3,0] rfl ?_
     cases hb_10
     exact ku K
    ·refine arr 4 [] rfl ?_
     cases hb_10
     exact ku K
   refine la rfl ?_
   obtain ⟨b11,hb_11,h⟩:=bs h
   refine WL.cutN 4 [(83,.bool b11)] ?_ (fun K=>?_)
   rotate_left
   ·refine sp 79 hb_11 rfl (fun hb_11=>?_) fun hb_11=>?_
    ·refine arr 4 [4,0] rfl ?_
     cases hb_11
     exact ku K
    ·refine arr 4 [] rfl ?_
     cases hb_11
     exact ku K
   refine la rfl<|en ?_
   exact rt hF h
  refine att 6 [] rfl ?_
  exact rt hF h
 refine ch h rfl ?_ ?_ <;> intro h
 ·refine WT.skip ?_
  exact wo [] [0] (K _ h)
 refine att 4 [] rfl ?_
 exact wo [] [0] (K _ h)
theorem mS (w0:af Ψ Φ []) (p0:(List ByteArray)) (p1:ByteArray) (ph0:RSl RS 1 Ψ pG0 pv0 p0) {r:Int} (h:cB N p0 p1=some r) :
  CB w0 prog 160 [pv0,.string p1] (iV r):=by
 refine eN func160 rfl ntmps160 rfl w0 fun hF=>?_
 unfold cB at h
 refine atr 8 [] rfl<|lnr ph0 rfl<|art 3 [] rfl ?_
 refine lin (σ:=Int) (fun s=>[(0,pv0),(1,.string p1),(7,iV (p0.length:Int)),(8,iV s)]) (fun s=>St w0 Φ [] []) (fun m s=>aU N p0 p1 m s=some r) (0) N h (sx [] []) (fun n1 ih1 s hm=>?_)
 revert hm; revert s; intro s1 hm
 have h:aU N p0 p1 (n1+1) s1=some r:=hm
 show WT _ _ [(0,pv0),(1,.string p1),(7,iV (p0.length:Int)),(8,iV s1)] (St w0 Φ [] [])
 unfold aU at h
 refine att 5 [] rfl ?_
 refine ch h rfl ?_ ?_ <;> intro h
 ·refine atr 13 [] rfl ?_
  obtain ⟨x1,hx1,h⟩:=bs h
  obtain ⟨cs1,F1,-,g1,hb1,hs1,r1⟩:=ph0.el (a7 hx1).2.2
  obtain ⟨rfl,-⟩:=r1
  refine lia ph0 hx1 rfl<|lhx 0 0 g1 rfl<|la rfl<|en ?_
  refine ch h rfl ?_ ?_ <;> intro h
  ·refine att 5 [] rfl ?_
   exact rt hF h
  refine att 6 [] rfl ?_
  exact lb [] [] (ih1 _ h)
 refine att 5 [] rfl ?_
 exact rt hF h
theorem fR (w0:af Ψ Φ []) (p0:(List ByteArray)) (p1:ByteArray) (ph0:RSl RS 1 Ψ pG0 pv0 p0) {r:Bool} (h:bA N p0 p1=some r) :
  CB w0 prog 110 [pv0,.string p1] (.bool r):=by
 refine eN func110 rfl ntmps110 rfl w0 fun hF=>?_
 unfold bA at h
 refine atr 8 [] rfl<|qd h (mS N · p0 p1 ph0 ·) rfl rfl rfl fun x1 h=>art 3 [] rfl ?_
 exact rt hF h
theorem xc (w0:af Ψ Φ [ob pv0].flatten) (p0:(List ByteArray)) (p1:ByteArray) (ph0:OSl RS 9 1 Φ [] pv0 p0) {r:(List ByteArray)} (h:mg N p0 p1=some r) :
  Calls prog 195 [pv0,.string p1].toArray w0.w (aR Φ w0.w [ob pv0].flatten (fun Φ' Fs v=>∃ (sr_0_0:Value),v=sr_0_0∧Fs=[ob sr_0_0]∧OSl RS 9 1 Φ' [] sr_0_0 r)):=by
 refine eL func195 rfl ntmps195 rfl (L:=[ob pv0]) w0 (fun hF=>?_)
 unfold mg at h
 refine atr 9 [] rfl<|qc h (fR N · p0 p1 ph0.rsl ·) rfl rfl rfl fun x1 h=>en ?_
 refine ch h rfl ?_ ?_ <;> intro h
 ·refine att 5 [] rfl ?_
  exact rtg [0] hF (aG.one rfl) rfl (by cases h; exact fun w1 hw=>⟨pv0,rfl,rfl,ph0⟩)
 refine atr 5 [] rfl ?_
 have rc1:RC RS 1 Φ ([[]]:List (List Nat)) [.string p1] ([p1]:List ByteArray):=RC.cons (c:=[.string p1]) (cells:=[]) ⟨rfl,rfl⟩ rfl (RC.nil _ _ _)
 refine le' (cU (vs:=[(0,.string p1)]) (C:=#[.string p1]) RS.lasts rB FD rfl rfl rfl rfl (aK CS (ai (C':=[.string p1]) rfl rfl rfl rfl rfl (au))) rfl rc1 rfl (by simpa using Kw.nil)) rfl ?_
 rintro v1 Φ_1 D1 ⟨fr1,h1⟩
 replace h1:OSl RS 9 1 Φ_1 [] v1 ([p1]:List ByteArray):=by simpa using h1
 replace ph0:=ph0.f0 fr1
 obtain ⟨x2,hx2,h⟩:=bs h
 refine le' (dE RS.lasts RS.one RS.flat rB IJ rfl rfl rfl rfl rfl (js:=[1]) (Rr:=[ob v1]) rfl ph0 h1.rsl hx2) rfl ?_
 rintro v2 Φ_2 D2 ⟨⟨ap1,fr2⟩,h2⟩
 refine la rfl<|en ?_
 exact rtg [0] hF (aG.one rfl) rfl (by cases h; exact fun w1 hw=>⟨v2,rfl,rfl,h2⟩)
theorem o5 (w0:af Ψ Φ [ob pv0].flatten) (p0:(List ByteArray)) (p1:(List bk)) (ph0:OSl RS 9 1 Φ [] pv0 p0) (ph1:RSl cu 5 Ψ pG1 pv1 p1) {r:(List ByteArray)} (h:iK N p0 p1=some r) :
  Calls prog 159 [pv0,pv1].toArray w0.w (aR Φ w0.w [ob pv0].flatten (fun Φ' Fs v=>∃ (sr_0_0:Value),v=sr_0_0∧Fs=[ob sr_0_0]∧OSl RS 9 1 Φ' [] sr_0_0 r)):=by
 refine eL func159 rfl ntmps159 rfl (L:=[ob pv0]) w0 (fun hF=>?_)
 unfold iK at h
 refine atr 8 [] rfl<|lnr ph1 rfl<|art 3 [] rfl ?_
 refine lin (σ:=Hp × (List ByteArray) × Value × Int) (fun s=>[(0,s.2.2.1),(7,pv1),(8,iV (p1.length:Int)),(9,iV s.2.2.2)]) (fun s=>St w0 s.1 [] [ob s.2.2.1]) (fun m s=>ee N p1 m s.2.1 s.2.2.2=some r∧(OSl RS 9 1 s.1 [] s.2.2.1 s.2.1)) (Φ,p0,pv0,0) N ⟨h,ph0⟩ (sx [0] []) (fun n1 ih1 s hm=>?_)
 obtain ⟨Φ_1,s1,u1,s2⟩:=s
 obtain ⟨h,k1⟩:=hm
 dsimp only at h k1 ⊢
 unfold ee at h
 refine att 5 [] rfl ?_
 refine ch h rfl ?_ ?_ <;> intro h
 ·refine atr 5 [] rfl ?_
  obtain ⟨x1,hx1,h⟩:=bs h
  obtain ⟨cs1,F1,-,g1,hb1,hs1,r1⟩:=ph1.el (a7 hx1).2.2
  obtain ⟨rfl,-⟩:=r1
  refine lia ph1 hx1 rfl<|lhx 0 5 g1 rfl<|lnz mH rfl fun b_1=>soN 0 oV rfl ⟨rfl,rfl,rfl,rfl,rfl,trivial⟩ rfl ?_
  refine art 7 [0,0] rfl ?_
  refine ch h rfl ?_ ?_ <;> intro h
  ·refine atr 4 [1,0] rfl<|kcb [0] h rfl rfl rfl rfl (fun b ap z q=>xc N b s1 x1.S k1 q) ?_
   rintro x2 h v1 Φ_2 F2 ⟨ap1,fr1,v2,rfl,rfl,h1⟩
   refine art 7 [] rfl ?_
   exact lb [0] [] (ih1 (_,_,_,_) ⟨h,h1⟩)
  refine att 6 [] rfl ?_
  exact lb [0] [] (ih1 (_,_,_,_) ⟨h,k1⟩)
 refine att 6 [] rfl ?_
 exact rtg [0] hF (aG.one rfl) rfl (by cases h; exact fun w1 hw=>⟨u1,rfl,rfl,k1⟩)
theorem vH (w0:af Ψ Φ []) (p0:ac) (ph0_0:RSl bt 3 Ψ pG0_0 pv0_0 p0.Pats) (ph0_1:RSl bl 11 Ψ pG0_1 pv0_1 p0.Conds) (ph0_2:RSl cX 5 Ψ pG0_2 pv0_2 p0.Acts) {r:(List ByteArray)} (h:jM N p0=some r) :
  Calls prog 108 [.agg [.string p0.Name,iV p0.Sal,pv0_0,pv0_1,pv0_2].toArray].toArray w0.w (aR Φ w0.w [] (fun Φ' Fs v=>∃ (sr_0_0:Value),v=sr_0_0∧Fs=[ob sr_0_0]∧OSl RS 9 1 Φ' [] sr_0_0 r)):=by
 refine eN func108 rfl ntmps108 rfl w0 fun hF=>?_
 unfold jM at h
 refine sr<|lbx rfl fun b_1=>arr 11 [2,0] rfl<|lnr ph0_0 rfl<|art 3 [] rfl<|wtS ?_
 have k1:=OSl.nil RS 9 1 Φ
 refine lin (σ:=Hp × (List ByteArray) × Value × Int) (fun s=>[(3,s.2.2.1),(7,pv0_0),(8,iV (p0.Pats.length:Int)),(9,iV s.2.2.2)]) (fun s=>St w0 s.1 [] [ob s.2.2.1]) (fun m s=>eh N p0 m s.2.1 s.2.2.2=some r∧(OSl RS 9 1 s.1 [] s.2.2.1 s.2.1)) (Φ,([]:List ByteArray),(.slice none 0 0),0) N ⟨h,k1⟩ (sx [0] []) (fun n1 ih1 s hm=>?_)
 obtain ⟨Φ_1,s1,u1,s2⟩:=s
 obtain ⟨h,k2⟩:=hm
 dsimp only at h k2 ⊢
 unfold eh at h
 refine att 5 [] rfl ?_
 refine ch h rfl ?_ ?_ <;> intro h
 ·refine atr 5 [] rfl ?_
  obtain ⟨x1,hx1,h⟩:=bs h
  obtain ⟨cs1,F1,-,g1,hb1,hs1,r1⟩:=ph0_0.el (a7 hx1).2.2
  obtain ⟨v1,G1,rfl,hq1,h1⟩:=r1
  obtain rfl:=hq1.symm
  refine lia ph0_0 hx1 rfl<|lhx 0 3 g1 rfl<|lnz mN rfl fun b_2=>soN 0 pX rfl ⟨rfl,h1.one,rfl,trivial⟩ rfl ?_
  refine art 7 [2,0] rfl ?_
  refine ch h rfl ?_ ?_ <;> intro h
  ·refine atr 4 [1,0] rfl<|kcb [0] h rfl rfl rfl rfl (fun b ap z q=>o5 N b s1 x1.Args k2 (h1.y z) q) ?_
   rintro x2 h v2 Φ_2 F2 ⟨ap1,fr1,v3,rfl,rfl,h2⟩
   refine art 7 [] rfl ?_
   exact lb [0] [] (ih1 (_,_,_,_) ⟨h,h2⟩)
  refine att 6 [] rfl ?_
  exact lb [0] [] (ih1 (_,_,_,_) ⟨h,k2⟩)
 refine att 6 [] rfl ?_
 exact rtg [0] hF (aG.one rfl) rfl (by cases h; exact fun w1 hw=>⟨u1,rfl,rfl,k2⟩)
theorem uT (w0:af Ψ Φ []) (p0:ac) (ph0_0:RSl bt 3 Ψ pG0_0 pv0_0 p0.Pats) (ph0_1:RSl bl 11 Ψ pG0_1 pv0_1 p0.Conds) (ph0_2:RSl cX 5 Ψ pG0_2 pv0_2 p0.Acts) {r:(List ByteArray)} (h:jT N p0=some r) :
  Calls prog 109 [.agg [.string p0.Name,iV p0.Sal,pv0_0,pv0_1,pv0_2].toArray].toArray w0.w (aR Φ w0.w [] (fun Φ' Fs v=>∃ (sr_0_0:Value),v=sr_0_0∧Fs=[ob sr_0_0]∧OSl RS 9 1 Φ' [] sr_0_0 r)):=by
 refine eN func109 rfl ntmps109 rfl w0 fun hF=>?_
 unfold jT at h
 refine sr<|lbx rfl fun b_1=>arr 11 [3,0] rfl<|lnr ph0_1 rfl<|art 3 [] rfl<|wtS ?_
 have k1:=OSl.nil RS 9 1 Φ
 refine lin (σ:=Hp × (List ByteArray) × Value × Int) (fun s=>[(1,pQ b_1),(3,s.2.2.1),(11,pv0_1),(12,iV (p0.Conds.length:Int)),(13,iV s.2.2.2)]) (fun s=>St w0 s.1 [(b_1,.cells #[.string p0.Name,iV p0.Sal,pv0_0,pv0_1,pv0_2] 109 (0,0))] [ob s.2.2.1]) (fun m s=>eu N p0 m s.2.1 s.2.2.2=some r∧(OSl RS 9 1 s.1 [] s.2.2.1 s.2.1)) (Φ,([]:List ByteArray),(.slice none 0 0),0) N ⟨h,k1⟩ (sx [0] [0]) (fun n1 ih1 s hm=>?_)
 obtain ⟨Φ_1,s1,u1,s2⟩:=s
 obtain ⟨h,k2⟩:=hm
 dsimp only at h k2 ⊢
 unfold eu at h
 refine att 5 [] rfl ?_
 refine ch h rfl ?_ ?_ <;> intro h
 ·refine atr 5 [] rfl ?_
  obtain ⟨x1,hx1,h⟩:=bs h
  obtain ⟨cs1,F1,-,g1,hb1,hs1,r1⟩:=ph0_1.el (a7 hx1).2.2
  obtain ⟨rfl,-⟩:=r1
  refine lia ph0_1 hx1 rfl<|lhx 0 11 g1 rfl<|lnz xE rfl fun b_2=>soN 0 AX rfl ⟨rfl,rfl,rfl,rfl,rfl,rfl,rfl,rfl,rfl,rfl,rfl,trivial⟩ rfl ?_
  refine arr 7 [1,5,6,5] rfl ?_
  have rc1:RC cu 5 Φ_1 ([[],[]]:List (List Nat)) [iV x1.L.K,.string x1.L.S,iV x1.L.V.K,iV x1.L.V.N,.string x1.L.V.S,iV x1.R.K,.string x1.R.S,iV x1.R.V.K,iV x1.R.V.N,.string x1.R.V.S] ([x1.L,x1.R]:List bk):=RC.cons (c:=[iV x1.L.K,.string x1.L.S,iV x1.L.V.K,iV x1.L.V.N,.string x1.L.V.S]) (cells:=[iV x1.R.K,.string x1.R.S,iV x1.R.V.K,iV x1.R.V.N,.string x1.R.V.S]) ⟨rfl,rfl⟩ rfl (RC.cons (c:=[iV x1.R.K,.string x1.R.S,iV x1.R.V.K,iV x1.R.V.N,.string x1.R.V.S]) (cells:=[]) ⟨rfl,rfl⟩ rfl (RC.nil _ _ _))
  refine le' (cU (vs:=[(0,.agg [iV x1.L.K,.string x1.L.S,iV x1.L.V.K,iV x1.L.V.N,.string x1.L.V.S].toArray),(1,.agg [iV x1.R.K,.string x1.R.S,iV x1.R.V.K,iV x1.R.V.N,.string x1.R.V.S].toArray)]) (C:=#[iV x1.L.K,.string x1.L.S,iV x1.L.V.K,iV x1.L.V.N,.string x1.L.V.S,iV x1.R.K,.string x1.R.S,iV x1.R.V.K,iV x1.R.V.N,.string x1.R.V.S]) cu.lasts tV mH rfl rfl rfl rfl (aK BV (ai (C':=[iV x1.L.K,.string x1.L.S,iV x1.L.V.K,iV x1.L.V.N,.string x1.L.V.S,iV 0,.string ⟨#[]⟩,iV 0,iV 0,.string ⟨#[]⟩]) rfl rfl rfl rfl rfl (ai (C':=[iV x1.L.K,.string x1.L.S,iV x1.L.V.K,iV x1.L.V.N,.string x1.L.V.S,iV x1.R.K,.string x1.R.S,iV x1.R.V.K,iV x1.R.V.N,.string x1.R.V.S]) rfl rfl rfl rfl rfl (au)))) rfl rc1 rfl (by simpa using Kw.nil)) rfl ?_
  rintro v1 Φ_2 D1 ⟨fr1,h1⟩
  replace h1:OSl cu 169 5 Φ_2 [] v1 ([x1.L,x1.R]:List bk):=by simpa using h1
  replace k2:=k2.f0 fr1
  refine kcb [1] h rfl rfl rfl rfl (fun b ap z q=>o5 N b s1 ([x1.L,x1.R]:List bk) k2 (h1.rsl.x (Dj.app (ap.q 0 rfl) dN)) q) ?_
  rintro x2 h v2 Φ_3 F2 ⟨ap1,fr2,v3,rfl,rfl,h2⟩
  refine art 7 [] rfl ?_
  exact lb [0] [1] (ih1 (_,_,_,_) ⟨h,h2⟩)
 refine atr 6 [4,0] rfl<|lnr ph0_2 rfl<|art 3 [] rfl ?_
 refine lin (σ:=Hp × (List ByteArray) × Value × Int) (fun s=>[(3,s.2.2.1),(26,pv0_2),(27,iV (p0.Acts.length:Int)),(28,iV s.2.2.2)]) (fun s=>St w0 s.1 [] [ob s.2.2.1]) (fun m s=>cv N p0 m s.2.1 s.2.2.2=some r∧(OSl RS 9 1 s.1 [] s.2.2.1 s.2.1)) (Φ_1,s1,u1,0) N ⟨h,k2⟩ (sx [0] []) (fun n2 ih2 s hm=>?_)
 obtain ⟨Φ_4,s3,u2,s4⟩:=s
 obtain ⟨h,k3⟩:=hm
 dsimp only at h k3 ⊢
 unfold cv at h
 refine att 5 [] rfl ?_
 refine ch h rfl ?_ ?_ <;> intro h
 ·refine atr 5 [] rfl ?_
  obtain ⟨x3,hx3,h⟩:=bs h
  obtain ⟨cs2,F3,-,g2,hb2,hs2,r2⟩:=ph0_2.el (a7 hx3).2.2
  obtain ⟨v4,G1,rfl,hq1,h3⟩:=r2
  obtain rfl:=hq1.symm
  refine lia ph0_2 hx3 rfl<|lhx 0 5 g2 rfl<|lnz wl rfl fun b_3=>soN 0 Bn rfl ⟨rfl,rfl,h3.one,rfl,rfl,trivial⟩ rfl ?_
  refine arr 5 [2,0] rfl<|lnr h3 rfl<|art 3 [] rfl ?_
  refine lin (σ:=Hp × (List ByteArray) × Value × Int) (fun s=>[(3,s.2.2.1),(26,pv0_2),(27,iV (p0.Acts.length:Int)),(28,iV s4),(33,v4),(34,iV (x3.Args.length:Int)),(35,iV s.2.2.2)]) (fun s=>St w0 s.1 [] [ob s.2.2.1]) (fun m s=>dt N s4 (cv N p0 n2) x3 m s.2.1 s.2.2.2=some r∧(OSl RS 9 1 s.1 [] s.2.2.1 s.2.1)) (Φ_4,s3,u2,0) N ⟨h,k3⟩ (sx [0] []) (fun n3 ih3 s hm=>?_)
  obtain ⟨Φ_5,s5,u3,s6⟩:=s
  obtain ⟨h,k4⟩:=hm
  dsimp only at h k4 ⊢
  unfold dt at h
  refine att 5 [] rfl ?_
  refine ch h rfl ?_ ?_ <;> intro h
  ·refine atr 5 [] rfl ?_
   obtain ⟨x4,hx4,h⟩:=bs h
   obtain ⟨cs3,F4,-,g3,hb3,hs3,r3⟩:=h3.el (a7 hx4).2.2
   obtain ⟨rfl,-⟩:=r3
   refine lia h3 hx4 rfl<|lhx 0 11 g3 rfl<|lnz xg rfl fun b_4=>soN 0 AV rfl ⟨rfl,rfl,rfl,rfl,rfl,rfl,rfl,rfl,rfl,rfl,rfl,trivial⟩ rfl ?_
   refine arr 7 [1,5,6,5] rfl ?_
   have rc2:RC cu 5 Φ_5 ([[],[]]:List (List Nat)) [iV x4.L.K,.string x4.L.S,iV x4.L.V.K,iV x4.L.V.N,.string x4.L.V.S,iV x4.R.K,.string x4.R.S,iV x4.R.V.K,iV x4.R.V.N,.string x4.R.V.S] ([x4.L,x4.R]:List bk):=RC.cons (c:=[iV x4.L.K,.string x4.L.S,iV x4.L.V.K,iV x4.L.V.N,.string x4.L.V.S]) (cells:=[iV x4.R.K,.string x4.R.S,iV x4.R.V.K,iV x4.R.V.N,.string x4.R.V.S]) ⟨rfl,rfl⟩ rfl (RC.cons (c:=[iV x4.R.K,.string x4.R.S,iV x4.R.V.K,iV x4.R.V.N,.string x4.R.V.S]) (cells:=[]) ⟨rfl,rfl⟩ rfl (RC.nil _ _ _))
   refine le' (cU (vs:=[(0,.agg [iV x4.L.K,.string x4.L.S,iV x4.L.V.K,iV x4.L.V.N,.string x4.L.V.S].toArray),(1,.agg [iV x4.R.K,.string x4.R.S,iV x4.R.V.K,iV x4.R.V.N,.string x4.R.V.S].toArray)]) (C:=#[iV x4.L.K,.string x4.L.S,iV x4.L.V.K,iV x4.L.V.N,.string x4.L.V.S,iV x4.R.K,.string x4.R.S,iV x4.R.V.K,iV x4.R.V.N,.string x4.R.V.S]) cu.lasts tV mH rfl rfl rfl rfl (aK BV (ai (C':=[iV x4.L.K,.string x4.L.S,iV x4.L.V.K,iV x4.L.V.N,.string x4.L.V.S,iV 0,.string ⟨#[]⟩,iV 0,iV 0,.string ⟨#[]⟩]) rfl rfl rfl rfl rfl (ai (C':=[iV x4.L.K,.string x4.L.S,iV x4.L.V.K,iV x4.L.V.N,.string x4.L.V.S,iV x4.R.K,.string x4.R.S,iV x4.R.V.K,iV x4.R.V.N,.string x4.R.V.S]) rfl rfl rfl rfl rfl (au)))) rfl rc2 rfl (by simpa using Kw.nil)) rfl ?_
   rintro v5 Φ_6 D2 ⟨fr3,h4⟩
   replace h4:OSl cu 169 5 Φ_6 [] v5 ([x4.L,x4.R]:List bk):=by simpa using h4
   replace k4:=k4.f0 fr3
   refine kcb [1] h rfl rfl rfl rfl (fun b ap z q=>o5 N b s5 ([x4.L,x4.R]:List bk) k4 (h4.rsl.x (Dj.app (ap.q 0 rfl) dN)) q) ?_
   rintro x5 h v6 Φ_7 F5 ⟨ap2,fr4,v7,rfl,rfl,h5⟩
   refine art 7 [] rfl ?_
   exact lb [0] [] (ih3 (_,_,_,_) ⟨h,h5⟩)
  refine att 6 [] rfl ?_
  exact lb [0] [] (ih2 (_,_,_,_) ⟨h,k4⟩)
 refine att 6 [] rfl ?_
 exact rtg [0] hF (aG.one rfl) rfl (by cases h; exact fun w1 hw=>⟨u2,rfl,rfl,k3⟩)
theorem ym (w0:af Ψ Φ []) (p0:ac) (ph0_0:RSl bt 3 Ψ pG0_0 pv0_0 p0.Pats) (ph0_1:RSl bl 11 Ψ pG0_1 pv0_1 p0.Conds) (ph0_2:RSl cX 5 Ψ pG0_2 pv0_2 p0.Acts) {r:Bool} (h:nM N p0=some r) :
  CB w0 prog 60 [.agg [.string p0.Name,iV p0.Sal,pv0_0,pv0_1,pv0_2].toArray] (.bool r):=by
 refine eN func60 rfl ntmps60 rfl w0 fun hF=>?_
 unfold nM at h
 refine sr<|lbx rfl fun b_1=>arr 7 [0,0] rfl<|qc h (i7 N · p0.Name ·) rfl rfl rfl fun x1 h=>arr 2 [] rfl ?_
 obtain ⟨b1,hb_1,h⟩:=bs h
 refine WL.cutN 5 [(19,.bool b1),(1,pQ b_1)] ?_ (fun K=>?_)
 rotate_left
 ·refine sp 14 hb_1 rfl (fun hb_1=>?_) fun hb_1=>?_
  ·refine arr 5 [] rfl ?_
   cases hb_1
   exact ku K
  ·refine arr 2 [1,0] rfl<|ly rfl rfl<|qc hb_1 (cq N · p0.Sal (-100) 100 ·) rfl rfl rfl fun x2 hb_1=>arr 2 [] rfl ?_
   cases hb_1
   exact ku K
 refine la rfl ?_
 obtain ⟨b2,hb_2,h⟩:=bs h
 refine WL.cutN 4 [(24,.bool b2),(1,pQ b_1)] ?_ (fun K=>?_)
 rotate_left
 ·refine sp 20 hb_2 rfl (fun hb_2=>?_) fun hb_2=>?_
  ·refine arr 4 [] rfl ?_
   cases hb_2
   exact ku K
  ·refine ly rfl rfl<|ld5 mQ 0 rfl<|ly rfl rfl<|qd hb_2 (zg N · p0 ph0_0 ph0_1 ph0_2 ·) rfl rfl rfl fun x3 hb_2=>arr 2 [] rfl ?_
   cases hb_2
   exact ku K
 refine en ?_
 refine ch h rfl ?_ ?_ <;> intro h
 ·refine att 4 [] rfl ?_
  exact rt hF h
 refine atr 6 [3,0] rfl<|lnr ph0_1 rfl<|arr 2 [] rfl ?_
 obtain ⟨b3,hb_3,h⟩:=bs h
 refine WL.cutN 6 [(35,.bool b3),(1,pQ b_1)] ?_ (fun K=>?_)
 rotate_left
 ·refine sp 29 hb_3 rfl (fun hb_3=>?_) fun hb_3=>?_
  ·refine arr 6 [] rfl ?_
   cases hb_3
   exact ku K
  ·refine arr 2 [4,0] rfl<|ly rfl rfl<|lnr ph0_2 rfl<|ly rfl rfl<|qc hb_3 (cq N · (p0.Acts.length:Int) 1 6 ·) rfl rfl rfl fun x4 hb_3=>arr 2 [] rfl ?_
   cases hb_3
   exact ku K
 refine en ?_
 refine ch h rfl ?_ ?_ <;> intro h
 ·refine att 4 [] rfl ?_
  exact rt hF h
 refine atr 6 [3,0] rfl<|lnr ph0_1 rfl<|art 3 [] rfl ?_
 refine lin (σ:=Int) (fun s=>[(1,pQ b_1),(37,pv0_1),(38,iV (p0.Conds.length:Int)),(39,iV s)]) (fun s=>St w0 Φ [(b_1,.cells #[.string p0.Name,iV p0.Sal,pv0_0,pv0_1,pv0_2] 109 (0,0))] []) (fun m s=>dY N p0 m s=some r) (0) N h (sx [] [0]) (fun n1 ih1 s hm=>?_)
 revert hm; revert s; intro s1 hm
 have h:dY N p0 (n1+1) s1=some r:=hm
 show WT _ _ [(1,pQ b_1),(37,pv0_1),(38,iV (p0.Conds.length:Int)),(39,iV s1)] (St w0 Φ [(b_1,.cells #[.string p0.Name,iV p0.Sal,pv0_0,pv0_1,pv0_2] 109 (0,0))] [])
 unfold dY at h
 refine att 5 [] rfl ?_
 refine ch h rfl ?_ ?_ <;> intro h
 ·refine atr 5 [] rfl ?_
  obtain ⟨x5,hx5,h⟩:=bs h
  obtain ⟨cs1,F1,-,g1,hb1,hs1,r1⟩:=ph0_1.el (a7 hx5).2.2
  obtain ⟨rfl,-⟩:=r1
  refine lia ph0_1 hx5 rfl<|lhx 0 11 g1 rfl<|lnz xE rfl fun b_2=>soN 0 AX rfl ⟨rfl,rfl,rfl,rfl,rfl,rfl,rfl,rfl,rfl,rfl,rfl,trivial⟩ rfl ?_
  refine arr 4 [11] rfl<|qc h (zm N · x5 ·) rfl rfl rfl fun x6 h=>la rfl<|en ?_
  refine ch h rfl ?_ ?_ <;> intro h
  ·refine att 4 [] rfl ?_
   exact rt hF h
  refine att 6 [] rfl ?_
  exact lb [] [1] (ih1 _ h)
 refine atr 6 [4,0] rfl<|lnr ph0_2 rfl<|art 3 [] rfl ?_
 refine lin (σ:=Int) (fun s=>[(1,pQ b_1),(48,pv0_2),(49,iV (p0.Acts.length:Int)),(50,iV s)]) (fun s=>St w0 Φ [(b_1,.cells #[.string p0.Name,iV p0.Sal,pv0_0,pv0_1,pv0_2] 109 (0,0))] []) (fun m s=>dV N p0 m s=some r) (0) N h (sx [] [0]) (fun n2 ih2 s hm=>?_)
 revert hm; revert s; intro s2 hm
 have h:dV N p0 (n2+1) s2=some r:=hm
 show WT _ _ [(1,pQ b_1),(48,pv0_2),(49,iV (p0.Acts.length:Int)),(50,iV s2)] (St w0 Φ [(b_1,.cells #[.string p0.Name,iV p0.Sal,pv0_0,pv0_1,pv0_2] 109 (0,0))] [])
 unfold dV at h
 refine att 5 [] rfl ?_
 refine ch h rfl ?_ ?_ <;> intro h
 ·refine atr 5 [] rfl ?_
  obtain ⟨x7,hx7,h⟩:=bs h
  obtain ⟨cs2,F2,-,g2,hb2,hs2,r2⟩:=ph0_2.el (a7 hx7).2.2
  obtain ⟨v1,G1,rfl,hq1,h1⟩:=r2
  obtain rfl:=hq1.symm
  refine lia ph0_2 hx7 rfl<|lhx 0 5 g2 rfl<|lnz wl rfl fun b_3=>soN 0 Bn rfl ⟨rfl,rfl,h1.one,rfl,rfl,trivial⟩ rfl ?_
  refine en<|sq<|WT.draw mixed (by kernel_rfl) (fun _ h=>h.drew)<|qq (aq AZ rfl (fun w1 hw=>hw.rgO (i:=0) rfl 0 5 [iV x7.Kind,.string x7.Name,v1,iV x7.N,.string x7.Undo] rfl) rfl) rfl ?_
  obtain ⟨x8,hx8,h⟩:=bs h
  refine qp (bH Hq rfl (fun w1 hw=>AB N (ba hw.in0) x7 h1 hx8)) rfl<|aqq 2 [] rfl ?_
  obtain ⟨b4,hb_4,h⟩:=bs h
  refine WQ.cutN 11 [(68,.bool b4),(1,pQ b_1),(48,pv0_2),(49,iV (p0.Acts.length:Int)),(50,iV s2)] ?_ (fun K=>?_)
  rotate_left
  ·refine WQ.split (d:=57) rfl (fun c9=>?_) (fun c9=>?_)
   ·replace hb_4:=fk hb_4 c9
    refine aqq 11 [] rfl ?_
    cases hb_4
    exact kq K
   ·replace hb_4:=fg hb_4 c9
    refine aqq 4 [0,0] rfl ?_
    obtain ⟨b5,hb_5,hb_4⟩:=bs hb_4
    refine WQ.cutN 6 [(67,.bool b5),(1,pQ b_1),(48,pv0_2),(49,iV (p0.Acts.length:Int)),(50,iV s2),(57,.bool false)] ?_ (fun K=>?_)
    rotate_left
    ·refine WQ.split (d:=61) rfl (fun c10=>?_) (fun c10=>?_)
     ·replace hb_5:=fk hb_5 c10
      refine aqq 3 [3,0,37] rfl<|WQ.yes rfl rfl ?_
      obtain ⟨x9,hx9,hb_5⟩:=bs hb_5
      refine qp (bH DZ rfl (fun w1 hw=>mP N (ba hw.in0) p0 ph0_0 ph0_1 ph0_2 hx9)) rfl<|aqq 2 [] rfl ?_
      cases hb_5
      exact kq K
     ·replace hb_5:=fg hb_5 c10
      refine aqq 6 [] rfl ?_
      cases hb_5
      exact kq K
    refine WQ.q (pw rfl rfl) rfl rfl rfl ?_
    cases hb_4
    exact kq K
  refine WQ.nil ?_
  refine ch h rfl ?_ ?_ <;> intro h
  ·refine att 4 [] rfl ?_
   exact rt hF h
  refine att 6 [] rfl ?_
  exact lb [] [1] (ih2 _ h)
 refine atr 4 [5] rfl<|kab h rfl rfl rfl (fun b z q=>vH N b p0 (ph0_0.y z) (ph0_1.y z) (ph0_2.y z) q) ?_
 rintro x10 h v2 Φ_1 F3 ⟨ap1,fr1,v3,rfl,rfl,h2⟩
 refine arr 6 [5] rfl<|kab h rfl rfl rfl (fun b z q=>uT N b p0 (ph0_0.y z) (ph0_1.y z) (ph0_2.y z) q) ?_
 rintro x11 h v4 Φ_2 F4 ⟨ap2,fr2,v5,rfl,rfl,h3⟩
 replace h2:=h2.fr fr2 (ap2.q 0 rfl) dN
 refine lno h3 rfl<|art 3 [] rfl ?_
 refine lin (σ:=Int) (fun s=>[(7,v2),(73,v4),(74,iV (x11.length:Int)),(75,iV s)]) (fun s=>St w0 Φ_2 [] [ob v4,ob v2]) (fun m s=>dT N x10 x11 m s=some r) (0) N h (sx [0,0] []) (fun n3 ih3 s hm=>?_)
 revert hm; revert s; intro s3 hm
 have h:dT N x10 x11 (n3+1) s3=some r:=hm
 show WT _ _ [(7,v2),(73,v4),(74,iV (x11.length:Int)),(75,iV s3)] (St w0 Φ_2 [] [ob v4,ob v2])
 unfold dT at h
 refine att 5 [] rfl ?_
 refine ch h rfl ?_ ?_ <;> intro h
 ·refine atr 5 [] rfl ?_
  obtain ⟨x12,hx12,h⟩:=bs h
  obtain ⟨cs3,F5,-,g3,hb3,hs3,r3⟩:=h3.elS (a7 hx12).2.2
  obtain ⟨rfl,-⟩:=r3
  refine lio h3 hx12 rfl<|lgx 0 0 g3 rfl<|arr 6 [] rfl<|qc h (fR N · x10 x12 h2.rsl ·) rfl rfl rfl fun x13 h=>la rfl<|en ?_
  refine ch h rfl ?_ ?_ <;> intro h
  ·refine att 4 [] rfl ?_
   exact rt hF h
  refine att 6 [] rfl ?_
  exact lb [0,0] [] (ih3 _ h)
 refine att 5 [] rfl ?_
 exact rt hF h
theorem kj {p1f:Nat} {p1fr:List Value} (w0:af Ψ Φ []) (p0:(List ac)) (p1:ac→Option (Bool)) (ph0:RSl bV 5 Ψ pG0 pv0 p0) (p1hF:Fun prog p1f=true) (p1h:∀ {Φ':Hp} {w':World},FrH [] Φ Φ'→In Φ' w'→∀ (p1a0:ac) {p1v0_0:Value} {p1G0_0:List Nat} {p1v0_1:Value} {p1G0_1:List Nat} {p1v0_2:Value} {p1G0_2:List Nat} (_:RSl bt 3 Φ' p1G0_0 p1v0_0 p1a0.Pats) (_:RSl bl 11 Φ' p1G0_1 p1v0_1 p1a0.Conds) (_:RSl cX 5 Φ' p1G0_2 p1v0_2 p1a0.Acts) {r:Bool},p1 p1a0=some r→Calls prog p1f (([.agg [.string p1a0.Name,iV p1a0.Sal,p1v0_0,p1v0_1,p1v0_2].toArray]:List Value)++p1fr).toArray w' (pL (.bool r) w')) {r:Int} (h:cE N p0 p1=some r) :
  CB w0 prog 111 [pv0,.func (.func p1f) #[] p1fr.toArray] (iV r):=by
 refine eN func111 rfl ntmps111 rfl w0 fun hF=>?_
 unfold cE at h
 refine atr 8 [] rfl<|lnr ph0 rfl<|art 3 [] rfl ?_
 refine lin (σ:=Int) (fun s=>[(0,pv0),(1,.func (.func p1f) #[] p1fr.toArray),(7,iV (p0.length:Int)),(8,iV s)]) (fun s=>St w0 Φ [] []) (fun m s=>aO N p0 p1 m s=some r) (0) N h (sx [] []) (fun n1 ih1 s hm=>?_)
 revert hm; revert s; intro s1 hm
 have h:aO N p0 p1 (n1+1) s1=some r:=hm
 show WT _ _ [(0,pv0),(1,.func (.func p1f) #[] p1fr.toArray),(7,iV (p0.length:Int)),(8,iV s1)] (St w0 Φ [] [])
 unfold aO at h
 refine att 5 [] rfl ?_
 refine ch h rfl ?_ ?_ <;> intro h
 ·refine atr 13 [] rfl ?_
  obtain ⟨x1,hx1,h⟩:=bs h
  obtain ⟨cs1,F1,-,g1,hb1,hs1,r1⟩:=ph0.el (a7 hx1).2.2
  obtain ⟨v1,G1,v2,G2,v3,G3,rfl,rfl,h1,h2,h3⟩:=r1
  refine lia ph0 hx1 rfl<|lhx 0 5 g1 rfl ?_
  obtain ⟨x2,hx2,h⟩:=bs h
  refine lp (tO p1hF rfl rfl (fun w1 hw=>p1h hw.frB hw.fro x1 (h1.y hw.up) (h2.y hw.up) (h3.y hw.up) hx2)) rfl<|en ?_
  refine ch h rfl ?_ ?_ <;> intro h
  ·refine att 5 [] rfl ?_
   exact rt hF h
  refine att 6 [] rfl ?_
  exact lb [] [] (ih1 _ h)
 refine att 5 [] rfl ?_
 exact rt hF h
theorem uq (w0:af Ψ Φ []) (p0:ac) (c0:ByteArray) (ph0_0:RSl bt 3 Ψ pG0_0 pv0_0 p0.Pats) (ph0_1:RSl bl 11 Ψ pG0_1 pv0_1 p0.Conds) (ph0_2:RSl cX 5 Ψ pG0_2 pv0_2 p0.Acts) (ppc0:Ψ pbc0=some (.cells #[.string c0] 9 (0,0))) {r:Bool} (h:ia N p0 c0=some r) :
  CB w0 prog 112 [.agg [.string p0.Name,iV p0.Sal,pv0_0,pv0_1,pv0_2].toArray,pQ pbc0] (.bool r):=by
 refine eN func112 rfl ntmps112 rfl w0 fun hF=>?_
 unfold ia at h
 refine sr<|lbx rfl fun b_1=>arr 6 [0,0] rfl<|lhx 0 0 (jl ppc0) rfl<|art 3 [] rfl ?_
 exact rt hF h
theorem yI (w0:af Ψ Φ []) (p0:bh) (p1:ByteArray) (ph0_0:RSl bV 5 Ψ pG0_0 pv0_0 p0.Rules) {r:Int} (h:p8 N p0 p1=some r) :
  CB w0 prog 61 [.agg [.string p0.Name,pv0_0].toArray,.string p1] (iV r):=by
 refine eN func61 rfl ntmps61 rfl w0 fun hF=>?_
 unfold p8 at h
 refine sr<|lbx rfl fun b_1=>?_
 refine ln (jI (C:=#[.string p1]) rfl rfl) rfl (fun b_2=>?_)
 refine arr 6 [1,32] rfl ?_
 refine WL.frz (js:=[0]) (R:=[(b_1,.cells #[.string p0.Name,pv0_0] 38 (0,0))]) rfl (fun Φ_1 fr1 k1=>?_)
 refine lq (CX rfl) rfl<|qz h (fun b z q=>kj N b p0.Rules (fun a0=>ia N a0 p1) (ph0_0.y z) Hs (fun hle' hin a0=>fun f0 f1 f2=>fun hr=>uq N (ba hin) a0 p1 f0 f1 f2 (hle' _ _ (by simp) k1) hr) q) rfl rfl rfl fun x1 h=>la rfl<|en ?_
 exact rt hF h
theorem Bl (w0:af Ψ Φ []) (p0:bh) (ph0_0:RSl bV 5 Ψ pG0_0 pv0_0 p0.Rules) {r:Bool} (h:qj N p0=some r) :
  CB w0 prog 30 [.agg [.string p0.Name,pv0_0].toArray] (.bool r):=by
 refine eN func30 rfl ntmps30 rfl w0 fun hF=>?_
 unfold qj at h
 refine sr<|lbx rfl fun b_1=>arr 7 [0,0] rfl<|qc h (i7 N · p0.Name ·) rfl rfl rfl fun x1 h=>arr 2 [] rfl ?_
 obtain ⟨b1,hb_1,h⟩:=bs h
 refine WL.cutN 6 [(15,.bool b1),(1,pQ b_1)] ?_ (fun K=>?_)
 rotate_left
 ·refine sp 9 hb_1 rfl (fun hb_1=>?_) fun hb_1=>?_
  ·refine arr 6 [] rfl ?_
   cases hb_1
   exact ku K
  ·refine arr 2 [1,0] rfl<|ly rfl rfl<|lnr ph0_0 rfl<|ly rfl rfl<|qc hb_1 (cq N · (p0.Rules.length:Int) 1 12 ·) rfl rfl rfl fun x2 hb_1=>arr 2 [] rfl ?_
   cases hb_1
   exact ku K
 refine en ?_
 refine ch h rfl ?_ ?_ <;> intro h
 ·refine att 4 [] rfl ?_
  exact rt hF h
 refine atr 6 [1,0] rfl<|lnr ph0_0 rfl<|art 3 [] rfl ?_
 refine lin (σ:=Int) (fun s=>[(1,pQ b_1),(17,pv0_0),(18,iV (p0.Rules.length:Int)),(19,iV s)]) (fun s=>St w0 Φ [(b_1,.cells #[.string p0.Name,pv0_0] 38 (0,0))] []) (fun m s=>eE N p0 m s=some r) (0) N h (sx [] [0]) (fun n1 ih1 s hm=>?_)
 revert hm; revert s; intro s1 hm
 have h:eE N p0 (n1+1) s1=some r:=hm
 show WT _ _ [(1,pQ b_1),(17,pv0_0),(18,iV (p0.Rules.length:Int)),(19,iV s1)] (St w0 Φ [(b_1,.cells #[.string p0.Name,pv0_0] 38 (0,0))] [])
 unfold eE at h
 refine att 5 [] rfl ?_
 refine ch h rfl ?_ ?_ <;> intro h
 ·refine atr 6 [] rfl ?_
  obtain ⟨x3,hx3,h⟩:=bs h
  obtain ⟨cs1,F1,-,g1,hb1,hs1,r1⟩:=ph0_0.el (a7 hx3).2.2
  obtain ⟨v1,G1,v2,G2,v3,G3,rfl,rfl,h1,h2,h3⟩:=r1
  refine lia ph0_0 hx3 rfl<|lhx 0 5 g1 rfl<|lnz un rfl fun b_2=>la rfl<|soN 0 vD rfl ⟨rfl,rfl,h1.one,h2.one,h3.one,trivial⟩ rfl ?_
  refine arr 4 [5] rfl<|qd h (ym N · x3 h1 h2 h3 ·) rfl rfl rfl fun x4 h=>arr 2 [] rfl ?_
  obtain ⟨b2,hb_2,h⟩:=bs h
  refine WL.cutN 7 [(34,.bool b2),(1,pQ b_1),(17,pv0_0),(18,iV (p0.Rules.length:Int)),(19,iV s1)] ?_ (fun K=>?_)
  rotate_left
  ·refine sp 27 hb_2 rfl (fun hb_2=>?_) fun hb_2=>?_
   ·refine arr 7 [] rfl ?_
    cases hb_2
    exact ku K
   ·refine arr 3 [34,0,0] rfl<|ly rfl rfl<|qd hb_2 (yI N · p0 x3.Name ph0_0 ·) rfl rfl rfl fun x5 hb_2=>arr 3 [] rfl ?_
    cases hb_2
    exact ku K
  refine en ?_
  refine ch h rfl ?_ ?_ <;> intro h
  ·refine att 4 [] rfl ?_
   exact rt hF h
  refine att 6 [] rfl ?_
  exact lb [] [1] (ih1 _ h)
 refine att 5 [] rfl ?_
 exact rt hF h
theorem yO (w0:af Ψ Φ []) (p0:av) (ph0_0:RSl aD 3 Ψ pG0_0 pv0_0 p0.Fields) {r:Bool} (h:ol N p0=some r) :
  CB w0 prog 62 [.agg [.string p0.Kind,pv0_0].toArray] (.bool r):=by
 refine eN func62 rfl ntmps62 rfl w0 fun hF=>?_
 unfold ol at h
 refine sr<|lbx rfl fun b_1=>arr 7 [0,0] rfl<|qc h (i7 N · p0.Kind ·) rfl rfl rfl fun x1 h=>arr 2 [] rfl ?_
 obtain ⟨b1,hb_1,h⟩:=bs h
 refine WL.cutN 5 [(14,.bool b1),(1,pQ b_1)] ?_ (fun K=>?_)
 rotate_left
 ·refine sp 9 hb_1 rfl (fun hb_1=>?_) fun hb_1=>?_
  ·refine arr 5 [] rfl ?_
   cases hb_1
   exact ku K
  ·refine arr 2 [1,0] rfl<|ly rfl rfl<|lnr ph0_0 rfl<|arr 2 [] rfl ?_
   cases hb_1
   exact ku K
 refine en ?_
 refine ch h rfl ?_ ?_ <;> intro h
 ·refine att 4 [] rfl ?_
  exact rt hF h
 refine atr 6 [1,0] rfl<|lnr ph0_0 rfl<|art 3 [] rfl ?_
 refine lin (σ:=Int) (fun s=>[(16,pv0_0),(17,iV (p0.Fields.length:Int)),(18,iV s)]) (fun s=>St w0 Φ [] []) (fun m s=>dQ N p0 m s=some r) (0) N h (sx [] []) (fun n1 ih1 s hm=>?_)
 revert hm; revert s; intro s1 hm
 have h:dQ N p0 (n1+1) s1=some r:=hm
 show WT _ _ [(16,pv0_0),(17,iV (p0.Fields.length:Int)),(18,iV s1)] (St w0 Φ [] [])
 unfold dQ at h
 refine att 5 [] rfl ?_
 refine ch h rfl ?_ ?_ <;> intro h
 ·refine atr 5 [] rfl ?_
  obtain ⟨x2,hx2,h⟩:=bs h
  obtain ⟨cs1,F1,-,g1,hb1,hs1,r1⟩:=ph0_0.el (a7 hx2).2.2
  obtain ⟨rfl,-⟩:=r1
  refine lia ph0_0 hx2 rfl<|lhx 0 3 g1 rfl<|lnz iw rfl fun b_2=>soN 0 oZ rfl ⟨rfl,rfl,rfl,trivial⟩ rfl ?_
  refine arr 4 [3] rfl<|qc h (tQ N · x2 ·) rfl rfl rfl fun x3 h=>la rfl<|en ?_
  refine ch h rfl ?_ ?_ <;> intro h
  ·refine att 4 [] rfl ?_
   exact rt hF h
  refine att 6 [] rfl ?_
  exact lb [] [] (ih1 _ h)
 refine att 5 [] rfl ?_
 exact rt hF h
theorem iI (w0:af Ψ Φ []) (p0:(List aP)) (p1:(List aP)) (ph0:RSl aD 3 Ψ pG0 pv0 p0) (ph1:RSl aD 3 Ψ pG1 pv1 p1) {r:Bool} (h:bu N p0 p1=some r) :
  CB w0 prog 114 [pv0,pv1] (.bool r):=by
 refine eN func114 rfl ntmps114 rfl w0 fun hF=>?_
 unfold bu at h
 refine atr 8 [] rfl<|lnr ph0 rfl<|la rfl<|lnr ph1 rfl<|la rfl<|en ?_
 refine ch h rfl ?_ ?_ <;> intro h
 ·refine att 4 [] rfl ?_
  exact rt hF h
 refine atr 5 [] rfl<|lnr ph0 rfl<|art 3 [] rfl ?_
 refine lin (σ:=Int) (fun s=>[(0,pv0),(1,pv1),(12,iV (p0.length:Int)),(13,iV s)]) (fun s=>St w0 Φ [] []) (fun m s=>aS N p0 p1 m s=some r) (0) N h (sx [] []) (fun n1 ih1 s hm=>?_)
 revert hm; revert s; intro s1 hm
 have h:aS N p0 p1 (n1+1) s1=some r:=hm
 show WT _ _ [(0,pv0),(1,pv1),(12,iV (p0.length:Int)),(13,iV s1)] (St w0 Φ [] [])
 unfold aS at h
 refine att 5 [] rfl ?_
 refine ch h rfl ?_ ?_ <;> intro h
 ·refine att 9 [] rfl<|WT.draw mixed (by kernel_rfl) (fun _ h=>h.drew)<|aqq 2 [] rfl ?_
  obtain ⟨x1,hx1,h⟩:=bs h
  obtain ⟨cs1,F1,-,g1,hb1,hs1,r1⟩:=ph0.el (a7 hx1).2.2
  obtain ⟨rfl,-⟩:=r1
  refine qq (a8 dA rfl rfl ph0 hx1) rfl<|qq (aq gF rfl (fun w1 hw=>(g1.of_eq 0 3 rfl rfl:rg _ _ _ [iV x1.K,iV x1.N,.string x1.S]).rangeAt hw.in0) rfl) rfl<|aqq 2 [] rfl ?_
  obtain ⟨x2,hx2,h⟩:=bs h
  obtain ⟨cs2,F2,-,g2,hb2,hs2,r2⟩:=ph1.el (a7 hx2).2.2
  obtain ⟨rfl,-⟩:=r2
  refine qq (a8 dA rfl rfl ph1 hx2) rfl<|qq (aq gF rfl (fun w1 hw=>(g2.of_eq 0 3 rfl rfl:rg _ _ _ [iV x2.K,iV x2.N,.string x2.S]).rangeAt hw.in0) rfl) rfl<|qq (uG kr rfl rfl rfl (r:=bb x1 x2) rfl) rfl<|WQ.nil ?_
  refine ch h rfl ?_ ?_ <;> intro h
  ·refine att 4 [] rfl ?_
   exact rt hF h
  refine att 6 [] rfl ?_
  exact lb [] [] (ih1 _ h)
 refine att 5 [] rfl ?_
 exact rt hF h
theorem uO (w0:af Ψ Φ []) (p0:av) (p1:av) (ph0_0:RSl aD 3 Ψ pG0_0 pv0_0 p0.Fields) (ph1_0:RSl aD 3 Ψ pG1_0 pv1_0 p1.Fields) {r:Bool} (h:kA N p0 p1=some r) :
  CB w0 prog 63 [.agg [.string p0.Kind,pv0_0].toArray,.agg [.string p1.Kind,pv1_0].toArray] (.bool r):=by
 refine eN func63 rfl ntmps63 rfl w0 fun hF=>?_
 unfold kA at h
 refine sr<|lbx rfl fun b_1=>lbx rfl fun b_2=>arr 10 [0,32,0,0] rfl ?_
 obtain ⟨b1,hb_1,h⟩:=bs h
 refine WL.cutN 6 [(16,.bool b1),(4,.bool false)] ?_ (fun K=>?_)
 rotate_left
 ·refine sp 10 hb_1 rfl (fun hb_1=>?_) fun hb_1=>?_
  ·refine arr 4 [1,32,1,0] rfl<|ly rfl rfl<|qd hb_1 (iI N · p0.Fields p1.Fields ph0_0 ph1_0 ·) rfl rfl rfl fun x1 hb_1=>la rfl ?_
   cases hb_1
   exact ku K
  ·refine arr 6 [] rfl ?_
   cases hb_1
   exact ku K
 refine la rfl<|en ?_
 exact rt hF h
theorem xj (w0:af Ψ Φ []) (p0:ae) (ph0_0:RSl bn 3 Ψ pG0_0 pv0_0 p0.Items) {r:Bool} (h:mb N p0=some r) :
  CB w0 prog 31 [.agg [pv0_0,iV p0.Next].toArray] (.bool r):=by
 refine eN func31 rfl ntmps31 rfl w0 fun hF=>?_
 unfold mb at h
 refine sr<|lbx rfl fun b_1=>arr 7 [0,0] rfl<|lnr ph0_0 rfl<|arr 2 [] rfl ?_
 obtain ⟨b1,hb_1,h⟩:=bs h
 refine WL.cutN 5 [(16,.bool b1),(1,pQ b_1)] ?_ (fun K=>?_)
 rotate_left
 ·refine sp 11 hb_1 rfl (fun hb_1=>?_) fun hb_1=>?_
  ·refine arr 5 [] rfl ?_
   cases hb_1
   exact ku K
  ·refine arr 2 [1,0] rfl<|ly rfl rfl<|qc hb_1 (cq N · p0.Next 1 1000000 ·) rfl rfl rfl fun x1 hb_1=>arr 2 [] rfl ?_
   cases hb_1
   exact ku K
 refine en ?_
 refine ch h rfl ?_ ?_ <;> intro h
 ·refine att 4 [] rfl ?_
  exact rt hF h
 refine atr 6 [0,0] rfl<|lnr ph0_0 rfl<|art 3 [] rfl ?_
 refine lin (σ:=Int) (fun s=>[(1,pQ b_1),(18,pv0_0),(19,iV (p0.Items.length:Int)),(20,iV s)]) (fun s=>St w0 Φ [(b_1,.cells #[pv0_0,iV p0.Next] 47 (0,0))] []) (fun m s=>cr N p0 m s=some r) (0) N h (sx [] [0]) (fun n1 ih1 s hm=>?_)
 revert hm; revert s; intro s1 hm
 have h:cr N p0 (n1+1) s1=some r:=hm
 show WT _ _ [(1,pQ b_1),(18,pv0_0),(19,iV (p0.Items.length:Int)),(20,iV s1)] (St w0 Φ [(b_1,.cells #[pv0_0,iV p0.Next] 47 (0,0))] [])
 unfold cr at h
 refine att 5 [] rfl ?_
 refine ch h rfl ?_ ?_ <;> intro h
 ·refine atr 6 [] rfl ?_
  obtain ⟨x2,hx2,h⟩:=bs h
  obtain ⟨cs1,F1,-,g1,hb1,hs1,r1⟩:=ph0_0.el (a7 hx2).2.2
  obtain ⟨v1,G1,rfl,hq1,h1⟩:=r1
  obtain rfl:=hq1.symm
  refine lia ph0_0 hx2 rfl<|lhx 0 3 g1 rfl<|lnz qU rfl fun b_2=>la rfl<|soN 0 rF rfl ⟨rfl,rfl,h1.one,trivial⟩ rfl ?_
  refine art 3 [] rfl<|WT.draw mixed (by kernel_rfl) (fun _ h=>h.drew)<|aqq 2 [1,2] rfl ?_
  obtain ⟨x3,hx3,h⟩:=bs h
  refine qp (bH Jj rfl (fun w1 hw=>yO N (ba hw.in0) x2.F h1 hx3)) rfl<|aqq 2 [] rfl ?_
  obtain ⟨b2,hb_2,h⟩:=bs h
  refine WQ.cutN 8 [(37,.bool b2),(1,pQ b_1),(3,iV s1),(4,pQ b_2),(18,pv0_0),(19,iV (p0.Items.length:Int)),(20,iV s1)] ?_ (fun K=>?_)
  rotate_left
  ·refine WQ.split (d:=29) rfl (fun c4=>?_) (fun c4=>?_)
   ·replace hb_2:=fk hb_2 c4
    refine aqq 8 [] rfl ?_
    cases hb_2
    exact kq K
   ·replace hb_2:=fg hb_2 c4
    refine aqq 5 [0,0,1,32] rfl<|WQ.yes rfl rfl ?_
    obtain ⟨x4,hx4,hb_2⟩:=bs hb_2
    refine qp (bH Jx rfl (fun w1 hw=>cq N (ba hw.fro) x2.Id 1 (wz (p0.Next - 1)) hx4)) rfl<|aqq 2 [] rfl ?_
    cases hb_2
    exact kq K
  refine qq (fo rfl) rfl ?_
  obtain ⟨b3,hb_3,h⟩:=bs h
  refine WQ.cutN 15 [(53,.bool b3),(1,pQ b_1),(3,iV s1),(4,pQ b_2),(18,pv0_0),(19,iV (p0.Items.length:Int)),(20,iV s1)] ?_ (fun K=>?_)
  rotate_left
  ·refine WQ.split (d:=38) rfl (fun c5=>?_) (fun c5=>?_)
   ·replace hb_3:=fk hb_3 c5
    refine aqq 15 [] rfl ?_
    cases hb_3
    exact kq K
   ·replace hb_3:=fg hb_3 c5
    refine aqq 3 [] rfl ?_
    obtain ⟨b4,hb_4,hb_3⟩:=bs hb_3
    refine WQ.cutN 11 [(52,.bool b4),(1,pQ b_1),(3,iV s1),(4,pQ b_2),(18,pv0_0),(19,iV (p0.Items.length:Int)),(20,iV s1),(38,.bool false)] ?_ (fun K=>?_)
    rotate_left
    ·refine WQ.split (d:=41) rfl (fun c6=>?_) (fun c6=>?_)
     ·replace hb_4:=fk hb_4 c6
      refine aqq 6 [0,0,0,32] rfl<|WQ.yes rfl rfl ?_
      obtain ⟨x5,hx5,hb_4⟩:=bs hb_4
      obtain ⟨cs2,F2,-,g2,hb2,hs2,r2⟩:=ph0_0.el (a7 hx5).2.2
      obtain ⟨v2,G2,rfl,hq2,h2⟩:=r2
      obtain rfl:=hq2.symm
      refine qq (a8 rP rfl rfl ph0_0 hx5) rfl<|WQ.yes rfl rfl<|qq (ax sh rfl) rfl<|WQ.yes rfl rfl<|qq (aM rU rfl (fun w1 hw=>(g2.of_eq 0 1 rfl rfl:rg _ _ _ [iV x5.Id]).rangeAt hw.in0)) rfl<|aqq 2 [] rfl ?_
      cases hb_4
      exact kq K
     ·replace hb_4:=fg hb_4 c6
      refine aqq 11 [] rfl ?_
      cases hb_4
      exact kq K
    refine WQ.q (pw rfl rfl) rfl rfl rfl ?_
    cases hb_3
    exact kq K
  refine WQ.nil ?_
  refine ch h rfl ?_ ?_ <;> intro h
  ·refine att 4 [] rfl ?_
   exact rt hF h
  refine atr 6 [0,32] rfl ?_
  obtain ⟨x6,hx6,h⟩:=bs h
  refine lq (EZ rP rfl rfl ph0_0 hx6) rfl ?_
  obtain ⟨F3,h3,hs3⟩:=ph0_0.sub hx6
  refine lnr h3 rfl<|art 3 [] rfl ?_
  refine lin (σ:=Int) (fun s=>[(1,pQ b_1),(4,pQ b_2),(18,pv0_0),(19,iV (p0.Items.length:Int)),(20,iV s1),(57,(slc pv0_0 (0:Int).toNat s1.toNat 3)),(58,iV (x6.length:Int)),(59,iV s)]) (fun s=>St w0 Φ [(b_2,.cells #[iV x2.Id,.string x2.F.Kind,v1] 117 (0,0)),(b_1,.cells #[pv0_0,iV p0.Next] 47 (0,0))] []) (fun m s=>de N s1 (cr N p0 n1) x2 x6 m s=some r) (0) N h (sx [] [0,0]) (fun n2 ih2 s hm=>?_)
  revert hm; revert s; intro s2 hm
  have h:de N s1 (cr N p0 n1) x2 x6 (n2+1) s2=some r:=hm
  show WT _ _ [(1,pQ b_1),(4,pQ b_2),(18,pv0_0),(19,iV (p0.Items.length:Int)),(20,iV s1),(57,(slc pv0_0 (0:Int).toNat s1.toNat 3)),(58,iV (x6.length:Int)),(59,iV s2)] (St w0 Φ [(b_2,.cells #[iV x2.Id,.string x2.F.Kind,v1] 117 (0,0)),(b_1,.cells #[pv0_0,iV p0.Next] 47 (0,0))] [])
  unfold de at h
  refine att 5 [] rfl ?_
  refine ch h rfl ?_ ?_ <;> intro h
  ·refine atr 5 [] rfl ?_
   obtain ⟨x7,hx7,h⟩:=bs h
   obtain ⟨cs3,F4,-,g3,hb3,hs4,r3⟩:=h3.el (a7 hx7).2.2
   obtain ⟨v3,G3,rfl,hq3,h4⟩:=r3
   obtain rfl:=hq3.symm
   refine lia h3 hx7 rfl<|lhx 0 3 g3 rfl<|lnz qU rfl fun b_3=>soN 0 rF rfl ⟨rfl,rfl,h4.one,trivial⟩ rfl ?_
   refine arr 7 [1,34,1,2] rfl<|qd h (uO N · x2.F x7.F h1 h4 ·) rfl rfl rfl fun x8 h=>en ?_
   refine ch h rfl ?_ ?_ <;> intro h
   ·refine att 4 [] rfl ?_
    exact rt hF h
   refine att 6 [] rfl ?_
   exact lb [] [1,1] (ih2 _ h)
  refine att 6 [] rfl ?_
  exact lb [] [1] (ih1 _ h)
 refine att 5 [] rfl ?_
 exact rt hF h
theorem gt {p2f:Nat} {p2fr:List Value} (w0:af Ψ Φ []) (p0:(List aQ)) (p1:(List aQ)) (p2:aQ→aQ→Option (Bool)) (ph0:RSl dp 1 Ψ pG0 pv0 p0) (ph1:RSl dp 1 Ψ pG1 pv1 p1) (p2hF:Fun prog p2f=true) (p2h:∀ {Φ':Hp} {w':World},FrH [] Φ Φ'→In Φ' w'→∀ (p2a0:aQ) (p2a1:aQ) {p2v0_0:Value} {p2G0_0:List Nat} {p2v1_0:Value} {p2G1_0:List Nat} (_:RSl (RI .i64) 1 Φ' p2G0_0 p2v0_0 p2a0.L) (_:RSl (RI .i64) 1 Φ' p2G1_0 p2v1_0 p2a1.L) {r:Bool},p2 p2a0 p2a1=some r→Calls prog p2f (([.agg [p2v0_0].toArray,.agg [p2v1_0].toArray]:List Value)++p2fr).toArray w' (pL (.bool r) w')) {r:Bool} (h:aY N p0 p1 p2=some r) :
  CB w0 prog 64 [pv0,pv1,.func (.func p2f) #[] p2fr.toArray] (.bool r):=by
 refine eN func64 rfl ntmps64 rfl w0 fun hF=>?_
 unfold aY at h
 refine atr 8 [] rfl<|lnr ph0 rfl<|la rfl<|lnr ph1 rfl<|la rfl<|en ?_
 refine ch h rfl ?_ ?_ <;> intro h
 ·refine att 4 [] rfl ?_
  exact rt hF h
 refine atr 5 [] rfl<|lnr ph0 rfl<|art 3 [] rfl ?_
 refine lin (σ:=Int) (fun s=>[(1,pv1),(2,.func (.func p2f) #[] p2fr.toArray),(15,pv0),(16,iV (p0.length:Int)),(17,iV s)]) (fun s=>St w0 Φ [] []) (fun m s=>az N p0 p1 p2 m s=some r) (0) N h (sx [] []) (fun n1 ih1 s hm=>?_)
 revert hm; revert s; intro s1 hm
 have h:az N p0 p1 p2 (n1+1) s1=some r:=hm
 show WT _ _ [(1,pv1),(2,.func (.func p2f) #[] p2fr.toArray),(15,pv0),(16,iV (p0.length:Int)),(17,iV s1)] (St w0 Φ [] [])
 unfold az at h
 refine att 5 [] rfl ?_
 refine ch h rfl ?_ ?_ <;> intro h
 ·refine atr 6 [] rfl ?_
  obtain ⟨x1,hx1,h⟩:=bs h
  obtain ⟨cs1,F1,-,g1,hb1,hs1,r1⟩:=ph0.el (a7 hx1).2.2
  obtain ⟨v1,G1,rfl,hq1,h1⟩:=r1
  obtain rfl:=hq1.symm
  refine lia ph0 hx1 rfl<|lhx 0 1 g1 rfl ?_
  refine ln (gD (C:=#[.slice none 0 0]) uI rfl) rfl (fun b_1=>?_)
  refine la rfl<|soN 0 Eh rfl ⟨h1.one,trivial⟩ rfl ?_
  refine arr 5 [] rfl ?_
  obtain ⟨x2,hx2,h⟩:=bs h
  obtain ⟨cs2,F2,-,g2,hb2,hs2,r2⟩:=ph1.el (a7 hx2).2.2
  obtain ⟨v2,G2,rfl,hq2,h2⟩:=r2
  obtain rfl:=hq2.symm
  refine lia ph1 hx2 rfl<|lhx 0 1 g2 rfl ?_
  refine ln (gD (C:=#[.slice none 0 0]) uI rfl) rfl (fun b_2=>?_)
  refine soN 0 Eh rfl ⟨h2.one,trivial⟩ rfl ?_
  refine arr 4 [] rfl<|lq (aq Aj rfl (fun w1 hw=>hw.rgO (i:=1) rfl 0 1 [v1] rfl) rfl) rfl<|lq (aq Aj rfl (fun w1 hw=>hw.rgO (i:=0) rfl 0 1 [v2] rfl) rfl) rfl ?_
  obtain ⟨x3,hx3,h⟩:=bs h
  refine lp (tO p2hF rfl rfl (fun w1 hw=>p2h hw.frB hw.fro x1 x2 (h1.y hw.up) (h2.y hw.up) hx3)) rfl<|la rfl<|en ?_
  refine ch h rfl ?_ ?_ <;> intro h
  ·refine att 4 [] rfl ?_
   exact rt hF h
  refine att 6 [] rfl ?_
  exact lb [] [] (ih1 _ h)
 refine att 5 [] rfl ?_
 exact rt hF h
theorem kE (w0:af Ψ Φ []) (p0:(List Int)) (p1:(List Int)) (ph0:RSl (RI .i64) 1 Ψ pG0 pv0 p0) (ph1:RSl (RI .i64) 1 Ψ pG1 pv1 p1) {r:Bool} (h:dl N p0 p1=some r) :
  CB w0 prog 66 [pv0,pv1] (.bool r):=by
 refine eN func66 rfl ntmps66 rfl w0 fun hF=>?_
 unfold dl at h
 refine atr 8 [] rfl<|lnr ph0 rfl<|la rfl<|lnr ph1 rfl<|la rfl<|en ?_
 refine ch h rfl ?_ ?_ <;> intro h
 ·refine att 4 [] rfl ?_
  exact rt hF h
 refine atr 5 [] rfl<|lnr ph0 rfl<|art 3 [] rfl ?_
 refine lin (σ:=Int) (fun s=>[(0,pv0),(1,pv1),(12,iV (p0.length:Int)),(13,iV s)]) (fun s=>St w0 Φ [] []) (fun m s=>cz N p0 p1 m s=some r) (0) N h (sx [] []) (fun n1 ih1 s hm=>?_)
 revert hm; revert s; intro s1 hm
 have h:cz N p0 p1 (n1+1) s1=some r:=hm
 show WT _ _ [(0,pv0),(1,pv1),(12,iV (p0.length:Int)),(13,iV s1)] (St w0 Φ [] [])
 unfold cz at h
 refine att 5 [] rfl ?_
 refine ch h rfl ?_ ?_ <;> intro h
 ·refine att 9 [] rfl<|WT.draw mixed (by kernel_rfl) (fun _ h=>h.drew)<|aqq 2 [] rfl ?_
  obtain ⟨x1,hx1,h⟩:=bs h
  obtain ⟨cs1,F1,-,g1,hb1,hs1,r1⟩:=ph0.el (a7 hx1).2.2
  obtain ⟨rfl,-⟩:=r1
  refine qq (a8 bD rfl rfl ph0 hx1) rfl<|qq (aM rU rfl (fun w1 hw=>(g1.of_eq 0 1 rfl rfl:rg _ _ _ [iV x1]).rangeAt hw.in0)) rfl<|aqq 2 [] rfl ?_
  obtain ⟨x2,hx2,h⟩:=bs h
  obtain ⟨cs2,F2,-,g2,hb2,hs2,r2⟩:=ph1.el (a7 hx2).2.2
  obtain ⟨rfl,-⟩:=r2
  refine qq (a8 bD rfl rfl ph1 hx2) rfl<|qq (aM rU rfl (fun w1 hw=>(g2.of_eq 0 1 rfl rfl:rg _ _ _ [iV x2]).rangeAt hw.in0)) rfl<|aqt 2 [] rfl ?_
  refine ch h rfl ?_ ?_ <;> intro h
  ·refine att 4 [] rfl ?_
   exact rt hF h
  refine att 6 [] rfl ?_
  exact lb [] [] (ih1 _ h)
 refine att 5 [] rfl ?_
 exact rt hF h
theorem tR (w0:af Ψ Φ []) (p0:aQ) (p1:aQ) (ph0_0:RSl (RI .i64) 1 Ψ pG0_0 pv0_0 p0.L) (ph1_0:RSl (RI .i64) 1 Ψ pG1_0 pv1_0 p1.L) {r:Bool} (h:eX N p0 p1=some r) :
  CB w0 prog 65 [.agg [pv0_0].toArray,.agg [pv1_0].toArray] (.bool r):=by
 refine eN func65 rfl ntmps65 rfl w0 fun hF=>?_
 unfold eX at h
 refine sr ?_
 refine ln (jI (C:=#[pv0_0]) rfl rfl) rfl (fun b_1=>?_)
 refine ln (jI (C:=#[pv1_0]) rfl rfl) rfl (fun b_2=>?_)
 refine arr 8 [0,32,0,0] rfl<|qd h (kE N · p0.L p1.L ph0_0 ph1_0 ·) rfl rfl rfl fun x1 h=>la rfl<|en ?_
 exact rt hF h
theorem gq {p2f:Nat} {p2fr:List Value} (w0:af Ψ Φ []) (p0:(List aF)) (p1:(List aF)) (p2:aF→aF→Option (Bool)) (ph0:RSl ff 1 Ψ pG0 pv0 p0) (ph1:RSl ff 1 Ψ pG1 pv1 p1) (p2hF:Fun prog p2f=true) (p2h:∀ {Φ':Hp} {w':World},FrH [] Φ Φ'→In Φ' w'→∀ (p2a0:aF) (p2a1:aF) {p2v0_0:Value} {p2G0_0:List Nat} {p2v1_0:Value} {p2G1_0:List Nat} (_:RSl cc 1 Φ' p2G0_0 p2v0_0 p2a0.Levels) (_:RSl cc 1 Φ' p2G1_0 p2v1_0 p2a1.Levels) {r:Bool},p2 p2a0 p2a1=some r→Calls prog p2f (([.agg [p2v0_0].toArray,.agg [p2v1_0].toArray]:List Value)++p2fr).toArray w' (pL (.bool r) w')) {r:Bool} (h:aX N p0 p1 p2=some r) :
  CB w0 prog 67 [pv0,pv1,.func (.func p2f) #[] p2fr.toArray] (.bool r):=by
 refine eN func67 rfl ntmps67 rfl w0 fun hF=>?_
 unfold aX at h
 refine atr 8 [] rfl<|lnr ph0 rfl<|la rfl<|lnr ph1 rfl<|la rfl<|en ?_
 refine ch h rfl ?_ ?_ <;> intro h
 ·refine att 4 [] rfl ?_
  exact rt hF h
 refine atr 5 [] rfl<|lnr ph0 rfl<|art 3 [] rfl ?_
 refine lin (σ:=Int) (fun s=>[(1,pv1),(2,.func (.func p2f) #[] p2fr.toArray),(15,pv0),(16,iV (p0.length:Int)),(17,iV s)]) (fun s=>St w0 Φ [] []) (fun m s=>aA N p0 p1 p2 m s=some r) (0) N h (sx [] []) (fun n1 ih1 s hm=>?_)
 revert hm; revert s; intro s1 hm
 have h:aA N p0 p1 p2 (n1+1) s1=some r:=hm
 show WT _ _ [(1,pv1),(2,.func (.func p2f) #[] p2fr.toArray),(15,pv0),(16,iV (p0.length:Int)),(17,iV s1)] (St w0 Φ [] [])
 unfold aA at h
 refine att 5 [] rfl ?_
 refine ch h rfl ?_ ?_ <;> intro h
 ·refine atr 6 [] rfl ?_
  obtain ⟨x1,hx1,h⟩:=bs h
  obtain ⟨cs1,F1,-,g1,hb1,hs1,r1⟩:=ph0.el (a7 hx1).2.2
  obtain ⟨v1,G1,rfl,hq1,h1⟩:=r1
  obtain rfl:=hq1.symm
  refine lia ph0 hx1 rfl<|lhx 0 1 g1 rfl ?_
  refine ln (gD (C:=#[.slice none 0 0]) ru rfl) rfl (fun b_1=>?_)
  refine la rfl<|soN 0 Aa rfl ⟨h1.one,trivial⟩ rfl ?_
  refine arr 5 [] rfl ?_
  obtain ⟨x2,hx2,h⟩:=bs h
  obtain ⟨cs2,F2,-,g2,hb2,hs2,r2⟩:=ph1.el (a7 hx2).2.2
  obtain ⟨v2,G2,rfl,hq2,h2⟩:=r2
  obtain rfl:=hq2.symm
  refine lia ph1 hx2 rfl<|lhx 0 1 g2 rfl ?_
  refine ln (gD (C:=#[.slice none 0 0]) ru rfl) rfl (fun b_2=>?_)
  refine soN 0 Aa rfl ⟨h2.one,trivial⟩ rfl ?_
  refine arr 4 [] rfl<|lq (aq vw rfl (fun w1 hw=>hw.rgO (i:=1) rfl 0 1 [v1] rfl) rfl) rfl<|lq (aq vw rfl (fun w1 hw=>hw.rgO (i:=0) rfl 0 1 [v2] rfl) rfl) rfl ?_
  obtain ⟨x3,hx3,h⟩:=bs h
  refine lp (tO p2hF rfl rfl (fun w1 hw=>p2h hw.frB hw.fro x1 x2 (h1.y hw.up) (h2.y hw.up) hx3)) rfl<|la rfl<|en ?_
  refine ch h rfl ?_ ?_ <;> intro h
  ·refine att 4 [] rfl ?_
   exact rt hF h
  refine att 6 [] rfl ?_
  exact lb [] [] (ih1 _ h)
 refine att 5 [] rfl ?_
 exact rt hF h
theorem eS {p2f:Nat} {p2fr:List Value} (w0:af Ψ Φ []) (p0:(List ab)) (p1:(List ab)) (p2:ab→ab→Option (Bool)) (ph0:RSl cc 1 Ψ pG0 pv0 p0) (ph1:RSl cc 1 Ψ pG1 pv1 p1) (p2hF:Fun prog p2f=true) (p2h:∀ {Φ':Hp} {w':World},FrH [] Φ Φ'→In Φ' w'→∀ (p2a0:ab) (p2a1:ab) {p2v0_0:Value} {p2G0_0:List Nat} {p2v1_0:Value} {p2G1_0:List Nat} (_:RSl bC 2 Φ' p2G0_0 p2v0_0 p2a0.Toks) (_:RSl bC 2 Φ' p2G1_0 p2v1_0 p2a1.Toks) {r:Bool},p2 p2a0 p2a1=some r→Calls prog p2f (([.agg [p2v0_0].toArray,.agg [p2v1_0].toArray]:List Value)++p2fr).toArray w' (pL (.bool r) w')) {r:Bool} (h:aW N p0 p1 p2=some r) :
  CB w0 prog 69 [pv0,pv1,.func (.func p2f) #[] p2fr.toArray] (.bool r):=by
 refine eN func69 rfl ntmps69 rfl w0 fun hF=>?_
 unfold aW at h
 refine atr 8 [] rfl<|lnr ph0 rfl<|la rfl<|lnr ph1 rfl<|la rfl<|en ?_
 refine ch h rfl ?_ ?_ <;> intro h
 ·refine att 4 [] rfl ?_
  exact rt hF h
 refine atr 5 [] rfl<|lnr ph0 rfl<|art 3 [] rfl ?_
 refine lin (σ:=Int) (fun s=>[(1,pv1),(2,.func (.func p2f) #[] p2fr.toArray),(15,pv0),(16,iV (p0.length:Int)),(17,iV s)]) (fun s=>St w0 Φ [] []) (fun m s=>ak N p0 p1 p2 m s=some r) (0) N h (sx [] []) (fun n1 ih1 s hm=>?_)
 revert hm; revert s; intro s1 hm
 have h:ak N p0 p1 p2 (n1+1) s1=some r:=hm
 show WT _ _ [(1,pv1),(2,.func (.func p2f) #[] p2fr.toArray),(15,pv0),(16,iV (p0.length:Int)),(17,iV s1)] (St w0 Φ [] [])
 unfold ak at h
 refine att 5 [] rfl ?_
 refine ch h rfl ?_ ?_ <;> intro h
 ·refine atr 6 [] rfl ?_
  obtain ⟨x1,hx1,h⟩:=bs h
  obtain ⟨cs1,F1,-,g1,hb1,hs1,r1⟩:=ph0.el (a7 hx1).2.2
  obtain ⟨v1,G1,rfl,hq1,h1⟩:=r1
  obtain rfl:=hq1.symm
  refine lia ph0 hx1 rfl<|lhx 0 1 g1 rfl ?_
  refine ln (gD (C:=#[.slice none 0 0]) uC rfl) rfl (fun b_1=>?_)
  refine la rfl<|soN 0 E7 rfl ⟨h1.one,trivial⟩ rfl ?_
  refine arr 5 [] rfl ?_
  obtain ⟨x2,hx2,h⟩:=bs h
  obtain ⟨cs2,F2,-,g2,hb2,hs2,r2⟩:=ph1.el (a7 hx2).2.2
  obtain ⟨v2,G2,rfl,hq2,h2⟩:=r2
  obtain rfl:=hq2.symm
  refine lia ph1 hx2 rfl<|lhx 0 1 g2 rfl ?_
  refine ln (gD (C:=#[.slice none 0 0]) uC rfl) rfl (fun b_2=>?_)
  refine soN 0 E7 rfl ⟨h2.one,trivial⟩ rfl ?_
  refine arr 4 [] rfl<|lq (aq zW rfl (fun w1 hw=>hw.rgO (i:=1) rfl 0 1 [v1] rfl) rfl) rfl<|lq (aq zW rfl (fun w1 hw=>hw.rgO (i:=0) rfl 0 1 [v2] rfl) rfl) rfl ?_
  obtain ⟨x3,hx3,h⟩:=bs h
  refine lp (tO p2hF rfl rfl (fun w1 hw=>p2h hw.frB hw.fro x1 x2 (h1.y hw.up) (h2.y hw.up) hx3)) rfl<|la rfl<|en ?_
  refine ch h rfl ?_ ?_ <;> intro h
  ·refine att 4 [] rfl ?_
   exact rt hF h
  refine att 6 [] rfl ?_
  exact lb [] [] (ih1 _ h)
 refine att 5 [] rfl ?_
 exact rt hF h
theorem iL (w0:af Ψ Φ []) (p0:(List aa)) (ph0:RSl bC 2 Ψ pG0 pv0 p0) {r:(List aa)} (h:cS N p0=some r) :
  Calls prog 115 [pv0].toArray w0.w (aR Φ w0.w [] (fun Φ' Fs v=>∃ (sr_0_0:Value) (Dr_0_0:List Nat),v=sr_0_0∧Fs=[ob sr_0_0]∧OSl bC 136 2 Φ' Dr_0_0 sr_0_0 r∧(∀ k∈Dr_0_0,k∈pG0))):=by
 refine eN func115 rfl ntmps115 rfl w0 fun hF=>?_
 unfold cS at h
 refine att 6 [] rfl ?_
 rcases RSl.nilOr ph0 with ⟨hxs1,cc1,hv1⟩ | ⟨a1,cc1,hv1⟩
 ·replace h:some []=some r:=by simpa [hxs1,app] using h
  refine atr 2 [] rfl<|lq (lL fj (congrArg some hv1) rfl) rfl<|en ?_
  refine cd rfl (fun c=>?_) (fun c=>by simp at c)
  refine att 4 [] rfl ?_
  refine WT.ret hF (aG.one rfl) (fun w1 hw=>?_)
  cases h
  replace hw:=hw.addNil
  refine bK (js:=[0]) hw rfl ⟨.slice none 0 0,[],rfl,rfl,OSl.nil _ _ _ _,(by simp)⟩
 refine atr 2 [] rfl<|lq (lL fj (congrArg some hv1) rfl) rfl<|en ?_
 refine cd rfl (fun c=>by simp at c) (fun c=>?_)
 refine atr 3 [] rfl ?_
 have rc1:RC aL 2 Φ ([]:List (List Nat)) [] ([]:List aa):=RC.nil _ _ _
 refine le' (cU (vs:=[]) (C:=#[]) aL.lasts fj iu rfl rfl rfl rfl (aK tj (au)) rfl rc1 rfl (by simpa using Kw.nil)) rfl ?_
 rintro v1 Φ_1 D1 ⟨fr1,h1⟩
 replace h1:OSl aL 136 2 Φ_1 [] v1 ([]:List aa):=by simpa [List.append_assoc] using h1
 refine WL.conv (S':=St w0 Φ_1 [] [[],ob v1]) (fun w1 hw=>hw.addNil)<|la rfl<|lu0 ph0 fun h2=>?_
 obtain ⟨x1,hx1,h⟩:=bs h
 replace h1:=h1.gives aL.gives
 refine le' (JE bC.lasts bC.knows bC.one fj rq rfl rfl rfl rfl rfl (js:=[1]) (Rr:=[[]]) rfl h1 h2 (fun ap=>dN) (fun ap=>(ap.o ph0.old)) hx1) rfl ?_
 rintro v2 Φ_2 D2 ⟨⟨ap1,fr2⟩,hin1,h3⟩
 refine la rfl<|en ?_
 exact rtg [0] hF (aG.one rfl) rfl (by cases h; exact fun w1 hw=>⟨v2,D2,rfl,rfl,h3,(fun k hk=>((fun k hk=>(by simpa using hin1 k hk:k∈pG0)) k hk))⟩)
theorem m5 (w0:af Ψ Φ []) (p0:(List aa)) (ph0:OSl bC 136 2 Ψ pD0 pv0 p0) {r:(List aa)} (h:d8 N p0=some r) :
  Calls prog 115 [pv0].toArray w0.w (aR Φ w0.w [] (fun Φ' Fs v=>∃ (sr_0_0:Value) (Dr_0_0:List Nat),v=sr_0_0∧Fs=[ob sr_0_0]∧OSl bC 136 2 Φ' Dr_0_0 sr_0_0 r∧(∀ k∈Dr_0_0,k∈pD0))):=by
 refine eN func115 rfl ntmps115 rfl w0 fun hF=>?_
 unfold d8 at h
 refine att 6 [] rfl ?_
 rcases RSl.nilOr (ph0.rsl) with ⟨hxs1,cc1,hv1⟩ | ⟨a1,cc1,hv1⟩
 ·replace h:some []=some r:=by simpa [hxs1,app] using h
  refine atr 2 [] rfl<|lq (lL fj (congrArg some hv1) rfl) rfl<|en ?_
  refine cd rfl (fun c=>?_) (fun c=>by simp at c)
  refine att 4 [] rfl ?_
  refine WT.ret hF (aG.one rfl) (fun w1 hw=>?_)
  cases h
  replace hw:=hw.addNil
  refine bK (js:=[0]) hw rfl ⟨.slice none 0 0,[],rfl,rfl,OSl.nil _ _ _ _,(by simp)⟩
 refine atr 2 [] rfl<|lq (lL fj (congrArg some hv1) rfl) rfl<|en ?_
 refine cd rfl (fun c=>by simp at c) (fun c=>?_)
 refine atr 3 [] rfl ?_
 have rc1:RC aL 2 Φ ([]:List (List Nat)) [] ([]:List aa):=RC.nil _ _ _
 refine le' (cU (vs:=[]) (C:=#[]) aL.lasts fj iu rfl rfl rfl rfl (aK tj (au)) rfl rc1 rfl (by simpa using Kw.nil)) rfl ?_
 rintro v1 Φ_1 D1 ⟨fr1,h1⟩
 replace h1:OSl aL 136 2 Φ_1 [] v1 ([]:List aa):=by simpa [List.append_assoc] using h1
 refine WL.conv (S':=St w0 Φ_1 [] [[],ob v1]) (fun w1 hw=>hw.addNil)<|la rfl<|luO ph0 fun h2=>?_
 obtain ⟨x1,hx1,h⟩:=bs h
 replace h1:=h1.gives aL.gives
 refine le' (j6 bC.lasts bC.one fj rq rfl rfl rfl rfl rfl (js:=[1]) (Rr:=[[]]) rfl h1 h2 (fun ap=>dN) (fun ap=>(ap.o ph0.old)) hx1) rfl ?_
 rintro v2 Φ_2 D2 ⟨⟨ap1,fr2⟩,h3⟩
 replace h3:OSl bC 136 2 Φ_2 pD0 v2 x1:=by simpa using h3
 refine la rfl<|en ?_
 exact rtg [0] hF (aG.one rfl) rfl (by cases h; exact fun w1 hw=>⟨v2,pD0,rfl,rfl,h3,(fun k hk=>hk)⟩)
end Go.Proofs.YtiljnppocjgkkaaGreat
