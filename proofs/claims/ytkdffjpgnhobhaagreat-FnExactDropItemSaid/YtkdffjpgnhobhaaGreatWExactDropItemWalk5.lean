/- Printed by a program of ours: each Go function computes its Lean function. -/
import Derived.Test.YtkdffjpgnhobhaaGreatProg
import Derived.Test.YtkdffjpgnhobhaaGreatWExactDropItemWalk4
namespace Go.Proofs.YtkdffjpgnhobhaaGreat
open Eng Tryz
open Go.RowKit (Below)
set_option linter.unusedVariables false
set_option linter.unusedSimpArgs false

set_option maxRecDepth 100000
set_option maxHeartbeats 1000000
variable {Ψ Φ:Hp} {pv0_0 pv0_1 pv0_2 pv0 pv1 pv1_0 pv1_1:Value} {pG0_0 pG0_1 pG0_2 pG0 pG1 pG1_0 pG1_1 pD0_0:List Nat} {pbc0 pb0:Nat} (N:Nat)
theorem E2  (w0:ab Ψ Φ []) (p0:ByteArray)  {r:Bool} (h:sH N p0=some r) :
  CB w0 prog 249 [.string p0] (.bool r):=by
 refine eN func249 rfl ntmps249 rfl w0 fun hF=>?_
 unfold sH at h
 refine atr 8 [] rfl<|lq (gj fw rfl rfl) rfl<|arr 2 [] rfl ?_
 obtain ⟨b1,hb_1,h⟩:=bs h
 refine WL.cutN 4 [(11,.bool b1),(0,.string p0)] ?_ (fun K=>?_)
 rotate_left
 ·refine sp 7 hb_1 rfl (fun hb_1=>?_) fun hb_1=>?_
  ·refine arr 4 [] rfl ?_
   cases hb_1
   exact ku K
  ·refine ly rfl rfl<|la rfl<|ly rfl rfl<|lq (gj fw rfl rfl) rfl<|arr 2 [] rfl ?_
   cases hb_1
   exact ku K
 refine la rfl ?_
 obtain ⟨b2,hb_2,h⟩:=bs h
 refine WL.cutN 5 [(17,.bool b2),(0,.string p0)] ?_ (fun K=>?_)
 rotate_left
 ·refine sp 12 hb_2 rfl (fun hb_2=>?_) fun hb_2=>?_
  ·refine arr 5 [] rfl ?_
   cases hb_2
   exact ku K
  ·refine ly rfl rfl<|la rfl<|ly rfl rfl ?_
   obtain ⟨y1,hy1,hb_2⟩:=bs hb_2
   refine lq (kx fw rfl rfl hy1) rfl<|ly rfl rfl<|qc hb_2 (tE N · (y1.toNat:Int) ·) rfl rfl rfl fun x1 hb_2=>arr 2 [] rfl ?_
   cases hb_2
   exact ku K
 refine en ?_
 refine ch h rfl ?_ ?_ <;> intro h
 ·refine att 4 [] rfl ?_
  exact rt hF h
 refine att 7 [] rfl ?_
 refine lin (σ:=Int) (fun s=>[(0,.string p0),(3,iV s)]) (fun s=>St w0 Φ [] []) (fun m s=>gE N p0 m s=some r) (0) N h (sx [] []) (fun n1 ih1 s hm=>?_)
 revert hm; revert s; intro s1 hm
 have h:gE N p0 (n1+1) s1=some r:=hm
 show WT _ _ [(0,.string p0),(3,iV s1)] (St w0 Φ [] [])
 unfold gE at h
 refine atr 5 [] rfl<|lq (gj fw rfl rfl) rfl<|la rfl<|en ?_
 refine ch h rfl ?_ ?_ <;> intro h
 ·refine atr 7 [] rfl ?_
  obtain ⟨y2,hy2,h⟩:=bs h
  refine lq (kx fw rfl rfl hy2) rfl<|qc h (rp N · (y2.toNat:Int) ·) rfl rfl rfl fun x2 h=>arr 2 [] rfl ?_
  obtain ⟨b3,hb_3,h⟩:=bs h
  refine WL.cutN 6 [(35,.bool b3),(0,.string p0),(3,iV s1)] ?_ (fun K=>?_)
  rotate_left
  ·refine sp 29 hb_3 rfl (fun hb_3=>?_) fun hb_3=>?_
   ·refine arr 2 [] rfl<|ly rfl rfl ?_
    obtain ⟨y3,hy3,hb_3⟩:=bs hb_3
    refine lq (kx fw rfl rfl hy3) rfl<|ly rfl rfl<|qc hb_3 (tE N · (y3.toNat:Int) ·) rfl rfl rfl fun x3 hb_3=>arr 2 [] rfl ?_
    cases hb_3
    exact ku K
   ·refine arr 6 [] rfl ?_
    cases hb_3
    exact ku K
  refine en ?_
  refine ch h rfl ?_ ?_ <;> intro h
  ·refine att 4 [] rfl ?_
   exact rt hF h
  refine att 7 [] rfl ?_
  exact lb [] [] (ih1 _ h)
 refine att 5 [] rfl ?_
 exact rt hF h
theorem w8  (w0:ab Ψ Φ []) (p0:aW)  {r:Bool} (h:pK N p0=some r) :
  CB w0 prog 244 [.agg [iV p0.K,.string p0.S,iV p0.V.K,iV p0.V.N,.string p0.V.S].toArray] (.bool r):=by
 refine eN func244 rfl ntmps244 rfl w0 fun hF=>?_
 unfold pK at h
 refine sr<|lbx rfl fun b_1=>art 14 [0,0] rfl ?_
 refine ch h rfl ?_ ?_ <;> intro h
 ·refine atr 4 [1,0] rfl<|qc h (E2 N · p0.S ·) rfl rfl rfl fun x1 h=>la rfl ?_
  obtain ⟨b1,hb_1,h⟩:=bs h
  refine WL.cutN 5 [(15,.bool b1),(2,.bool false)] ?_ (fun K=>?_)
  rotate_left
  ·refine sp 10 hb_1 rfl (fun hb_1=>?_) fun hb_1=>?_
   ·refine arr 2 [2,3] rfl<|ly rfl rfl<|lq (cG (vs:=[]) (C:=#[iV 0,iV 0,.string (⟨#[]⟩:ByteArray)]) Ad jk rfl (aq)) rfl<|ly rfl rfl<|lq (Ff p6 rfl rfl rfl (r:=bF p0.V (⟨0,0,(⟨#[]⟩:ByteArray)⟩:aE)) rfl) rfl<|la rfl ?_
    cases hb_1
    exact ku K
   ·refine arr 5 [] rfl ?_
    cases hb_1
    exact ku K
  refine la rfl<|en ?_
  exact rt hF h
 refine att 5 [] rfl ?_
 refine ch h rfl ?_ ?_ <;> intro h
 ·refine atr 6 [1,0] rfl ?_
  obtain ⟨b2,hb_2,h⟩:=bs h
  refine WL.cutN 4 [(25,.bool b2),(2,.bool false)] ?_ (fun K=>?_)
  rotate_left
  ·refine sp 21 hb_2 rfl (fun hb_2=>?_) fun hb_2=>?_
   ·refine arr 2 [2,3] rfl<|ly rfl rfl<|qc hb_2 (vr N · p0.V ·) rfl rfl rfl fun x2 hb_2=>la rfl ?_
    cases hb_2
    exact ku K
   ·refine arr 4 [] rfl ?_
    cases hb_2
    exact ku K
  refine la rfl<|en ?_
  exact rt hF h
 refine att 5 [] rfl ?_
 refine ch h rfl ?_ ?_ <;> intro h
 ·refine atr 6 [1,0] rfl ?_
  obtain ⟨b3,hb_3,h⟩:=bs h
  refine WL.cutN 5 [(36,.bool b3),(2,.bool false)] ?_ (fun K=>?_)
  rotate_left
  ·refine sp 31 hb_3 rfl (fun hb_3=>?_) fun hb_3=>?_
   ·refine arr 2 [2,3] rfl<|ly rfl rfl<|lq (cG (vs:=[]) (C:=#[iV 0,iV 0,.string (⟨#[]⟩:ByteArray)]) Ad jk rfl (aq)) rfl<|ly rfl rfl<|lq (Ff p6 rfl rfl rfl (r:=bF p0.V (⟨0,0,(⟨#[]⟩:ByteArray)⟩:aE)) rfl) rfl<|la rfl ?_
    cases hb_3
    exact ku K
   ·refine arr 5 [] rfl ?_
    cases hb_3
    exact ku K
  refine la rfl<|en ?_
  exact rt hF h
 refine att 6 [] rfl ?_
 exact rt hF h
theorem DZ (w0:ab Ψ Φ []) (p0:ax) (ph0_0:RSl bO 5 Ψ pG0_0 pv0_0 p0.Args) {r:Bool} (h:rU N p0=some r) :
  CB w0 prog 233 [.agg [.string p0.Kind,pv0_0,.bool p0.Not].toArray] (.bool r):=by
 refine eN func233 rfl ntmps233 rfl w0 fun hF=>?_
 unfold rU at h
 refine sr<|lbx rfl fun b_1=>arr 7 [0,0] rfl<|qc h (jf N · p0.Kind ·) rfl rfl rfl fun x1 h=>arr 2 [] rfl ?_
 obtain ⟨b1,hb_1,h⟩:=bs h
 refine WL.cutN 5 [(14,.bool b1),(1,pQ b_1)] ?_ (fun K=>?_)
 rotate_left
 ·refine sp 9 hb_1 rfl (fun hb_1=>?_) fun hb_1=>?_
  ·refine arr 5 [] rfl ?_
   cases hb_1
   exact ku K
  ·refine arr 2 [1,0] rfl<|ly rfl rfl<|lnr ph0_0 rfl<|arr 2 [] rfl ?_
   cases hb_1
   exact ku K
 refine en ?_
 refine ch h rfl ?_ ?_ <;> intro h
 ·refine att 4 [] rfl ?_
  exact rt hF h
 refine atr 6 [1,0] rfl<|lnr ph0_0 rfl<|art 3 [] rfl ?_
 refine lin (σ:=Int) (fun s=>[(16,pv0_0),(17,iV (p0.Args.length:Int)),(18,iV s)]) (fun s=>St w0 Φ [] []) (fun m s=>gF N p0 m s=some r) (0) N h (sx [] []) (fun n1 ih1 s hm=>?_)
 revert hm; revert s; intro s1 hm
 have h:gF N p0 (n1+1) s1=some r:=hm
 show WT _ _ [(16,pv0_0),(17,iV (p0.Args.length:Int)),(18,iV s1)] (St w0 Φ [] [])
 unfold gF at h
 refine att 5 [] rfl ?_
 refine ch h rfl ?_ ?_ <;> intro h
 ·refine atr 5 [] rfl ?_
  obtain ⟨x2,hx2,h⟩:=bs h
  obtain ⟨cs1,F1,-,g1,hb1,hs1,r1⟩:=ph0_0.el (a7 hx2).2.2
  obtain ⟨rfl,-⟩:=r1
  refine lia ph0_0 hx2 rfl<|lhx 0 5 g1 rfl<|lnz oK rfl fun b_2=>soN 0 qP rfl ⟨rfl,rfl,rfl,rfl,rfl,trivial⟩ rfl ?_
  refine arr 4 [5] rfl<|qc h (w8 N · x2 ·) rfl rfl rfl fun x3 h=>la rfl<|en ?_
  refine ch h rfl ?_ ?_ <;> intro h
  ·refine att 4 [] rfl ?_
   exact rt hF h
  refine att 6 [] rfl ?_
  exact lb [] [] (ih1 _ h)
 refine att 5 [] rfl ?_
 exact rt hF h
theorem AG (w0:ab Ψ Φ []) (p0:af) (ph0_0:RSl bR 3 Ψ pG0_0 pv0_0 p0.Pats) (ph0_1:RSl aZ 11 Ψ pG0_1 pv0_1 p0.Conds) (ph0_2:RSl dZ 5 Ψ pG0_2 pv0_2 p0.Acts) {r:Bool} (h:qJ N p0=some r) :
  CB w0 prog 207 [.agg [.string p0.Name,iV p0.Sal,pv0_0,pv0_1,pv0_2].toArray] (.bool r):=by
 refine eN func207 rfl ntmps207 rfl w0 fun hF=>?_
 unfold qJ at h
 refine sr<|lbx rfl fun b_1=>arr 7 [2,0] rfl<|lnr ph0_0 rfl<|qc h (cm N · (p0.Pats.length:Int) 1 6 ·) rfl rfl rfl fun x1 h=>arr 2 [] rfl ?_
 obtain ⟨b1,hb_1,h⟩:=bs h
 refine WL.cutN 5 [(15,.bool b1),(1,pQ b_1)] ?_ (fun K=>?_)
 rotate_left
 ·refine sp 10 hb_1 rfl (fun hb_1=>?_) fun hb_1=>?_
  ·refine arr 5 [] rfl ?_
   cases hb_1
   exact ku K
  ·refine ly rfl rfl<|ld5 tS 0 rfl<|ly rfl rfl<|qd hb_1 (oJ N · p0 ph0_0 ph0_1 ph0_2 ·) rfl rfl rfl fun x2 hb_1=>ly rfl rfl<|qc hb_1 (cm N · x2 1 3 ·) rfl rfl rfl fun x3 hb_1=>arr 2 [] rfl ?_
   cases hb_1
   exact ku K
 refine en ?_
 refine ch h rfl ?_ ?_ <;> intro h
 ·refine att 4 [] rfl ?_
  exact rt hF h
 refine atr 6 [2,0] rfl<|lnr ph0_0 rfl<|art 3 [] rfl ?_
 refine lin (σ:=Int) (fun s=>[(1,pQ b_1),(17,pv0_0),(18,iV (p0.Pats.length:Int)),(19,iV s)]) (fun s=>St w0 Φ [(b_1,.cells #[.string p0.Name,iV p0.Sal,pv0_0,pv0_1,pv0_2] 145 (0,0))] []) (fun m s=>eF N p0 m s=some r) (0) N h (sx [] [0]) (fun n1 ih1 s hm=>?_)
 revert hm; revert s; intro s1 hm
 have h:eF N p0 (n1+1) s1=some r:=hm
 show WT _ _ [(1,pQ b_1),(17,pv0_0),(18,iV (p0.Pats.length:Int)),(19,iV s1)] (St w0 Φ [(b_1,.cells #[.string p0.Name,iV p0.Sal,pv0_0,pv0_1,pv0_2] 145 (0,0))] [])
 unfold eF at h
 refine att 5 [] rfl ?_
 refine ch h rfl ?_ ?_ <;> intro h
 ·refine atr 6 [] rfl ?_
  obtain ⟨x4,hx4,h⟩:=bs h
  obtain ⟨cs1,F1,-,g1,hb1,hs1,r1⟩:=ph0_0.el (a7 hx4).2.2
  obtain ⟨v1,G1,rfl,hq1,h1⟩:=r1
  obtain rfl:=hq1.symm
  refine lia ph0_0 hx4 rfl<|lhx 0 3 g1 rfl<|lnz pP rfl fun b_2=>la rfl<|soN 0 sX rfl ⟨rfl,h1.one,rfl,trivial⟩ rfl ?_
  refine en<|sq<|WT.draw d7 (by kernel_rfl) (fun _ h=>h.drew)<|qq (aw uW rfl (fun w1 hw=>hw.rgO (i:=0) rfl 0 3 [.string x4.Kind,v1,.bool x4.Not] rfl) rfl) rfl ?_
  obtain ⟨x5,hx5,h⟩:=bs h
  refine qp (bM Jo rfl (fun w1 hw=>DZ N (ba hw.in0) x4 h1 hx5)) rfl<|aqq 2 [] rfl ?_
  obtain ⟨b2,hb_2,h⟩:=bs h
  refine WQ.cutN 8 [(35,.bool b2),(1,pQ b_1),(17,pv0_0),(18,iV (p0.Pats.length:Int)),(19,iV s1)] ?_ (fun K=>?_)
  rotate_left
  ·refine WQ.split (d:=27) rfl (fun c4=>?_) (fun c4=>?_)
   ·replace hb_2:=jl hb_2 c4
    refine aqq 8 [] rfl ?_
    cases hb_2
    exact kq K
   ·replace hb_2:=jn hb_2 c4
    refine aqq 4 [2,0,37] rfl<|WQ.yes rfl rfl ?_
    obtain ⟨x6,hx6,hb_2⟩:=bs hb_2
    refine qp (bM GK rfl (fun w1 hw=>oJ N (ba hw.in0) p0 ph0_0 ph0_1 ph0_2 hx6)) rfl<|WQ.yes rfl rfl<|qq (JX rfl rfl) rfl<|WQ.yes rfl rfl<|qq (JW LI rfl rfl) rfl<|WQ.q (uf rfl rfl) rfl rfl rfl ?_
    cases hb_2
    exact kq K
  refine WQ.nil ?_
  refine ch h rfl ?_ ?_ <;> intro h
  ·refine att 4 [] rfl ?_
   exact rt hF h
  refine att 6 [] rfl ?_
  exact lb [] [1] (ih1 _ h)
 refine att 5 [] rfl ?_
 exact rt hF h
theorem ko  (w0:ab Ψ Φ []) (p0:aW)  {r:Bool} (h:iu N p0=some r) :
  CB w0 prog 234 [.agg [iV p0.K,.string p0.S,iV p0.V.K,iV p0.V.N,.string p0.V.S].toArray] (.bool r):=by
 refine eN func234 rfl ntmps234 rfl w0 fun hF=>?_
 unfold iu at h
 refine sr<|lbx rfl fun b_1=>arr 8 [0,0] rfl ?_
 obtain ⟨b1,hb_1,h⟩:=bs h
 refine WL.cutN 3 [(9,.bool b1),(2,.bool false)] ?_ (fun K=>?_)
 rotate_left
 ·refine sp 6 hb_1 rfl (fun hb_1=>?_) fun hb_1=>?_
  ·refine ly rfl rfl<|ld5 Eh 0 rfl<|ly rfl rfl<|qc hb_1 (w8 N · p0 ·) rfl rfl rfl fun x1 hb_1=>la rfl ?_
   cases hb_1
   exact ku K
  ·refine arr 3 [] rfl ?_
   cases hb_1
   exact ku K
 refine la rfl<|en ?_
 exact rt hF h
theorem Aw  (w0:ab Ψ Φ []) (p0:bj)  {r:Bool} (h:pR N p0=some r) :
  CB w0 prog 208 [.agg [iV p0.Op,iV p0.L.K,.string p0.L.S,iV p0.L.V.K,iV p0.L.V.N,.string p0.L.V.S,iV p0.R.K,.string p0.R.S,iV p0.R.V.K,iV p0.R.V.N,.string p0.R.V.S].toArray] (.bool r):=by
 refine eN func208 rfl ntmps208 rfl w0 fun hF=>?_
 unfold pR at h
 refine sr<|lbx rfl fun b_1=>arr 6 [0,0] rfl<|qc h (cm N · p0.Op 1 3 ·) rfl rfl rfl fun x1 h=>la rfl ?_
 obtain ⟨b1,hb_1,h⟩:=bs h
 refine WL.cutN 4 [(10,.bool b1),(1,pQ b_1),(2,.bool false)] ?_ (fun K=>?_)
 rotate_left
 ·refine sp 6 hb_1 rfl (fun hb_1=>?_) fun hb_1=>?_
  ·refine arr 2 [1,5] rfl<|ly rfl rfl<|qc hb_1 (ko N · p0.L ·) rfl rfl rfl fun x2 hb_1=>la rfl ?_
   cases hb_1
   exact ku K
  ·refine arr 4 [] rfl ?_
   cases hb_1
   exact ku K
 refine la rfl ?_
 obtain ⟨b2,hb_2,h⟩:=bs h
 refine WL.cutN 4 [(15,.bool b2),(2,.bool false)] ?_ (fun K=>?_)
 rotate_left
 ·refine sp 11 hb_2 rfl (fun hb_2=>?_) fun hb_2=>?_
  ·refine arr 2 [6,5] rfl<|ly rfl rfl<|qc hb_2 (ko N · p0.R ·) rfl rfl rfl fun x3 hb_2=>la rfl ?_
   cases hb_2
   exact ku K
  ·refine arr 4 [] rfl ?_
   cases hb_2
   exact ku K
 refine la rfl<|en ?_
 exact rt hF h
theorem AH  (w0:ab Ψ Φ []) (p0:bh)  {r:Bool} (h:qg N p0=some r) :
  CB w0 prog 245 [.agg [.string p0.Op,iV p0.L.K,.string p0.L.S,iV p0.L.V.K,iV p0.L.V.N,.string p0.L.V.S,iV p0.R.K,.string p0.R.S,iV p0.R.V.K,iV p0.R.V.N,.string p0.R.V.S].toArray] (.bool r):=by
 refine eN func245 rfl ntmps245 rfl w0 fun hF=>?_
 unfold qg at h
 refine sr<|lbx rfl fun b_1=>art 14 [0,0] rfl ?_
 refine ch h rfl ?_ ?_ <;> intro h
 ·refine atr 4 [1,5] rfl<|qc h (ko N · p0.L ·) rfl rfl rfl fun x1 h=>la rfl ?_
  obtain ⟨b1,hb_1,h⟩:=bs h
  refine WL.cutN 5 [(15,.bool b1),(2,.bool false)] ?_ (fun K=>?_)
  rotate_left
  ·refine sp 10 hb_1 rfl (fun hb_1=>?_) fun hb_1=>?_
   ·refine arr 2 [6,5] rfl<|ly rfl rfl<|lq (cG (vs:=[]) (C:=#[iV 0,.string (⟨#[]⟩:ByteArray),iV 0,iV 0,.string (⟨#[]⟩:ByteArray)]) Hy oK rfl (aq)) rfl<|ly rfl rfl<|lq (Ff Gy rfl rfl rfl (r:=ql p0.R (⟨0,(⟨#[]⟩:ByteArray),(⟨0,0,(⟨#[]⟩:ByteArray)⟩:aE)⟩:aW)) rfl) rfl<|la rfl ?_
    cases hb_1
    exact ku K
   ·refine arr 5 [] rfl ?_
    cases hb_1
    exact ku K
  refine la rfl<|en ?_
  exact rt hF h
 refine att 6 [] rfl ?_
 refine cut (σ:=Bool) (fun s=>[(1,pQ b_1),(16,.bool s)]) (fun s=>St w0 Φ [(b_1,.cells #[.string p0.Op,iV p0.L.K,.string p0.L.S,iV p0.L.V.K,iV p0.L.V.N,.string p0.L.V.S,iV p0.R.K,.string p0.R.S,iV p0.R.V.K,iV p0.R.V.N,.string p0.R.V.S] 280 (0,0))] []) (fun s=>iL N p0 s=some r) (fun s hm=>?_) (fun K=>?_)
 ·clear h
  revert hm; revert s; intro s1 hm
  have h:iL N p0 s1=some r:=hm
  show WT _ _ [(1,pQ b_1),(16,.bool s1)] (St w0 Φ [(b_1,.cells #[.string p0.Op,iV p0.L.K,.string p0.L.S,iV p0.L.V.K,iV p0.L.V.N,.string p0.L.V.S,iV p0.R.K,.string p0.R.S,iV p0.R.V.K,iV p0.R.V.N,.string p0.R.V.S] 280 (0,0))] [])
  unfold iL at h
  refine ch h rfl ?_ ?_ <;> intro h
  ·refine atr 4 [1,5] rfl<|qc h (ko N · p0.L ·) rfl rfl rfl fun x2 h=>la rfl ?_
   obtain ⟨b2,hb_2,h⟩:=bs h
   refine WL.cutN 4 [(26,.bool b2)] ?_ (fun K=>?_)
   rotate_left
   ·refine sp 22 hb_2 rfl (fun hb_2=>?_) fun hb_2=>?_
    ·refine arr 2 [6,5] rfl<|ly rfl rfl<|qc hb_2 (ko N · p0.R ·) rfl rfl rfl fun x3 hb_2=>la rfl ?_
     cases hb_2
     exact ku K
    ·refine arr 4 [] rfl ?_
     cases hb_2
     exact ku K
   refine la rfl<|en ?_
   exact rt hF h
  refine att 6 [] rfl ?_
  exact rt hF h
 refine ch h rfl ?_ ?_ <;> intro h
 ·refine WT.skip ?_
  exact wo [] [0] (K _ h)
 refine att 4 [] rfl ?_
 exact wo [] [0] (K _ h)
theorem rH (w0:ab Ψ Φ []) (p0:bH) (ph0_0:RSl bq 11 Ψ pG0_0 pv0_0 p0.Args) {r:Bool} (h:kL N p0=some r) :
  CB w0 prog 235 [.agg [iV p0.Kind,.string p0.Name,pv0_0,iV p0.N,.string p0.Undo].toArray] (.bool r):=by
 refine eN func235 rfl ntmps235 rfl w0 fun hF=>?_
 unfold kL at h
 refine sr<|lbx rfl fun b_1=>arr 7 [1,0] rfl<|qc h (jf N · p0.Name ·) rfl rfl rfl fun x1 h=>arr 2 [] rfl ?_
 obtain ⟨b1,hb_1,h⟩:=bs h
 refine WL.cutN 5 [(14,.bool b1),(1,pQ b_1)] ?_ (fun K=>?_)
 rotate_left
 ·refine sp 9 hb_1 rfl (fun hb_1=>?_) fun hb_1=>?_
  ·refine arr 5 [] rfl ?_
   cases hb_1
   exact ku K
  ·refine arr 2 [2,0] rfl<|ly rfl rfl<|lnr ph0_0 rfl<|arr 2 [] rfl ?_
   cases hb_1
   exact ku K
 refine en ?_
 refine ch h rfl ?_ ?_ <;> intro h
 ·refine att 4 [] rfl ?_
  exact rt hF h
 refine atr 6 [2,0] rfl<|lnr ph0_0 rfl<|art 3 [] rfl ?_
 refine lin (σ:=Int) (fun s=>[(16,pv0_0),(17,iV (p0.Args.length:Int)),(18,iV s)]) (fun s=>St w0 Φ [] []) (fun m s=>et N p0 m s=some r) (0) N h (sx [] []) (fun n1 ih1 s hm=>?_)
 revert hm; revert s; intro s1 hm
 have h:et N p0 (n1+1) s1=some r:=hm
 show WT _ _ [(16,pv0_0),(17,iV (p0.Args.length:Int)),(18,iV s1)] (St w0 Φ [] [])
 unfold et at h
 refine att 5 [] rfl ?_
 refine ch h rfl ?_ ?_ <;> intro h
 ·refine atr 5 [] rfl ?_
  obtain ⟨x2,hx2,h⟩:=bs h
  obtain ⟨cs1,F1,-,g1,hb1,hs1,r1⟩:=ph0_0.el (a7 hx2).2.2
  obtain ⟨rfl,-⟩:=r1
  refine lia ph0_0 hx2 rfl<|lhx 0 11 g1 rfl<|lnz yF rfl fun b_2=>soN 0 DB rfl ⟨rfl,rfl,rfl,rfl,rfl,rfl,rfl,rfl,rfl,rfl,rfl,trivial⟩ rfl ?_
  refine arr 4 [11] rfl<|qc h (AH N · x2 ·) rfl rfl rfl fun x3 h=>la rfl<|en ?_
  refine ch h rfl ?_ ?_ <;> intro h
  ·refine att 4 [] rfl ?_
   exact rt hF h
  refine att 6 [] rfl ?_
  exact lb [] [] (ih1 _ h)
 refine att 5 [] rfl ?_
 exact rt hF h
theorem BL  (w0:ab Ψ Φ []) (p0:ByteArray)  {r:Bool} (h:t6 N p0=some r) :
  CB w0 prog 236 [.string p0] (.bool r):=by
 refine eN func236 rfl ntmps236 rfl w0 fun hF=>?_
 unfold t6 at h
 refine atr 9 [] rfl ?_
 obtain ⟨b1,hb_1,h⟩:=bs h
 refine WL.cutN 3 [(8,.bool b1),(2,.bool false)] ?_ (fun K=>?_)
 rotate_left
 ·refine sp 5 hb_1 rfl (fun hb_1=>?_) fun hb_1=>?_
  ·refine arr 3 [] rfl ?_
   cases hb_1
   exact ku K
  ·refine ly rfl rfl<|la rfl<|ly rfl rfl<|qc hb_1 (jf N · p0 ·) rfl rfl rfl fun x1 hb_1=>la rfl ?_
   cases hb_1
   exact ku K
 refine la rfl<|en ?_
 exact rt hF h
theorem Eg (w0:ab Ψ Φ []) (p0:bH) (ph0_0:RSl bq 11 Ψ pG0_0 pv0_0 p0.Args) {r:Bool} (h:sh N p0=some r) :
  CB w0 prog 209 [.agg [iV p0.Kind,.string p0.Name,pv0_0,iV p0.N,.string p0.Undo].toArray] (.bool r):=by
 refine eN func209 rfl ntmps209 rfl w0 fun hF=>?_
 unfold sh at h
 refine sr<|lbx rfl fun b_1=>arr 8 [1,0] rfl ?_
 obtain ⟨b1,hb_1,h⟩:=bs h
 refine WL.cutN 5 [(12,.bool b1),(1,pQ b_1)] ?_ (fun K=>?_)
 rotate_left
 ·refine sp 7 hb_1 rfl (fun hb_1=>?_) fun hb_1=>?_
  ·refine arr 2 [2,0] rfl<|ly rfl rfl<|lnr ph0_0 rfl<|arr 2 [] rfl ?_
   cases hb_1
   exact ku K
  ·refine arr 5 [] rfl ?_
   cases hb_1
   exact ku K
 refine art 14 [0,0] rfl ?_
 refine ch h rfl ?_ ?_ <;> intro h
 ·refine atr 3 [5] rfl<|qd h (rH N · p0 ph0_0 ·) rfl rfl rfl fun x1 h=>la rfl ?_
  obtain ⟨b2,hb_2,h⟩:=bs h
  refine WL.cutN 4 [(23,.bool b2),(1,pQ b_1)] ?_ (fun K=>?_)
  rotate_left
  ·refine sp 19 hb_2 rfl (fun hb_2=>?_) fun hb_2=>?_
   ·refine arr 4 [3,0] rfl ?_
    cases hb_2
    exact ku K
   ·refine arr 4 [] rfl ?_
    cases hb_2
    exact ku K
  refine la rfl ?_
  obtain ⟨b3,hb_3,h⟩:=bs h
  refine WL.cutN 4 [(28,.bool b3)] ?_ (fun K=>?_)
  rotate_left
  ·refine sp 24 hb_3 rfl (fun hb_3=>?_) fun hb_3=>?_
   ·refine arr 4 [4,0] rfl ?_
    cases hb_3
    exact ku K
   ·refine arr 4 [] rfl ?_
    cases hb_3
    exact ku K
  refine la rfl<|en ?_
  exact rt hF h
 refine att 5 [] rfl ?_
 refine ch h rfl ?_ ?_ <;> intro h
 ·refine atr 4 [] rfl ?_
  obtain ⟨b4,hb_4,h⟩:=bs h
  refine WL.cutN 4 [(36,.bool b4),(1,pQ b_1)] ?_ (fun K=>?_)
  rotate_left
  ·refine sp 32 hb_4 rfl (fun hb_4=>?_) fun hb_4=>?_
   ·refine arr 2 [3,0] rfl<|ly rfl rfl<|qc hb_4 (cm N · p0.N 0 7 ·) rfl rfl rfl fun x2 hb_4=>la rfl ?_
    cases hb_4
    exact ku K
   ·refine arr 4 [] rfl ?_
    cases hb_4
    exact ku K
  refine la rfl ?_
  obtain ⟨b5,hb_5,h⟩:=bs h
  refine WL.cutN 4 [(41,.bool b5)] ?_ (fun K=>?_)
  rotate_left
  ·refine sp 37 hb_5 rfl (fun hb_5=>?_) fun hb_5=>?_
   ·refine arr 4 [4,0] rfl ?_
    cases hb_5
    exact ku K
   ·refine arr 4 [] rfl ?_
    cases hb_5
    exact ku K
  refine la rfl<|en ?_
  exact rt hF h
 refine att 5 [] rfl ?_
 refine ch h rfl ?_ ?_ <;> intro h
 ·refine atr 3 [5] rfl<|qd h (rH N · p0 ph0_0 ·) rfl rfl rfl fun x3 h=>la rfl ?_
  obtain ⟨b6,hb_6,h⟩:=bs h
  refine WL.cutN 4 [(50,.bool b6),(1,pQ b_1)] ?_ (fun K=>?_)
  rotate_left
  ·refine sp 46 hb_6 rfl (fun hb_6=>?_) fun hb_6=>?_
   ·refine arr 4 [3,0] rfl ?_
    cases hb_6
    exact ku K
   ·refine arr 4 [] rfl ?_
    cases hb_6
    exact ku K
  refine la rfl ?_
  obtain ⟨b7,hb_7,h⟩:=bs h
  refine WL.cutN 4 [(55,.bool b7)] ?_ (fun K=>?_)
  rotate_left
  ·refine sp 51 hb_7 rfl (fun hb_7=>?_) fun hb_7=>?_
   ·refine arr 2 [4,0] rfl<|ly rfl rfl<|qc hb_7 (BL N · p0.Undo ·) rfl rfl rfl fun x4 hb_7=>la rfl ?_
    cases hb_7
    exact ku K
   ·refine arr 4 [] rfl ?_
    cases hb_7
    exact ku K
  refine la rfl<|en ?_
  exact rt hF h
 refine att 5 [] rfl ?_
 refine ch h rfl ?_ ?_ <;> intro h
 ·refine atr 3 [5] rfl<|qd h (rH N · p0 ph0_0 ·) rfl rfl rfl fun x5 h=>la rfl ?_
  obtain ⟨b8,hb_8,h⟩:=bs h
  refine WL.cutN 4 [(64,.bool b8),(1,pQ b_1)] ?_ (fun K=>?_)
  rotate_left
  ·refine sp 60 hb_8 rfl (fun hb_8=>?_) fun hb_8=>?_
   ·refine arr 2 [3,0] rfl<|ly rfl rfl<|qc hb_8 (cm N · p0.N 0 100000 ·) rfl rfl rfl fun x6 hb_8=>la rfl ?_
    cases hb_8
    exact ku K
   ·refine arr 4 [] rfl ?_
    cases hb_8
    exact ku K
  refine la rfl ?_
  obtain ⟨b9,hb_9,h⟩:=bs h
  refine WL.cutN 4 [(69,.bool b9)] ?_ (fun K=>?_)
  rotate_left
  ·refine sp 65 hb_9 rfl (fun hb_9=>?_) fun hb_9=>?_
   ·refine arr 4 [4,0] rfl ?_
    cases hb_9
    exact ku K
   ·refine arr 4 [] rfl ?_
    cases hb_9
    exact ku K
  refine la rfl<|en ?_
  exact rt hF h
 refine att 6 [] rfl ?_
 refine cut (σ:=Bool) (fun s=>[(1,pQ b_1),(3,.bool b1),(70,.bool s)]) (fun s=>St w0 Φ [(b_1,.cells #[iV p0.Kind,.string p0.Name,pv0_0,iV p0.N,.string p0.Undo] 232 (0,0))] []) (fun s=>jX N p0 b1 s=some r) (fun s hm=>?_) (fun K=>?_)
 ·clear h
  revert hm; revert s; intro s1 hm
  have h:jX N p0 b1 s1=some r:=hm
  show WT _ _ [(1,pQ b_1),(3,.bool b1),(70,.bool s1)] (St w0 Φ [(b_1,.cells #[iV p0.Kind,.string p0.Name,pv0_0,iV p0.N,.string p0.Undo] 232 (0,0))] [])
  unfold jX at h
  refine ch h rfl ?_ ?_ <;> intro h
  ·refine atr 4 [] rfl ?_
   obtain ⟨b10,hb_10,h⟩:=bs h
   refine WL.cutN 4 [(78,.bool b10),(1,pQ b_1)] ?_ (fun K=>?_)
   rotate_left
   ·refine sp 74 hb_10 rfl (fun hb_10=>?_) fun hb_10=>?_
    ·refine arr 4 [3,0] rfl ?_
     cases hb_10
     exact ku K
    ·refine arr 4 [] rfl ?_
     cases hb_10
     exact ku K
   refine la rfl ?_
   obtain ⟨b11,hb_11,h⟩:=bs h
   refine WL.cutN 4 [(83,.bool b11)] ?_ (fun K=>?_)
   rotate_left
   ·refine sp 79 hb_11 rfl (fun hb_11=>?_) fun hb_11=>?_
    ·refine arr 4 [4,0] rfl ?_
     cases hb_11
     exact ku K
    ·refine arr 4 [] rfl ?_
     cases hb_11
     exact ku K
   refine la rfl<|en ?_
   exact rt hF h
  refine att 6 [] rfl ?_
  exact rt hF h
 refine ch h rfl ?_ ?_ <;> intro h
 ·refine WT.skip ?_
  exact wo [] [0] (K _ h)
 refine att 4 [] rfl ?_
 exact wo [] [0] (K _ h)
theorem oL (w0:ab Ψ Φ []) (p0:(List ByteArray)) (p1:ByteArray) (ph0:RSl RS 1 Ψ pG0 pv0 p0) {r:Int} (h:cC N p0 p1=some r) :
  CB w0 prog 238 [pv0,.string p1] (iV r):=by
 refine eN func238 rfl ntmps238 rfl w0 fun hF=>?_
 unfold cC at h
 refine atr 8 [] rfl<|lnr ph0 rfl<|art 3 [] rfl ?_
 refine lin (σ:=Int) (fun s=>[(0,pv0),(1,.string p1),(7,iV (p0.length:Int)),(8,iV s)]) (fun s=>St w0 Φ [] []) (fun m s=>bi N p0 p1 m s=some r) (0) N h (sx [] []) (fun n1 ih1 s hm=>?_)
 revert hm; revert s; intro s1 hm
 have h:bi N p0 p1 (n1+1) s1=some r:=hm
 show WT _ _ [(0,pv0),(1,.string p1),(7,iV (p0.length:Int)),(8,iV s1)] (St w0 Φ [] [])
 unfold bi at h
 refine att 5 [] rfl ?_
 refine ch h rfl ?_ ?_ <;> intro h
 ·refine atr 13 [] rfl ?_
  obtain ⟨x1,hx1,h⟩:=bs h
  obtain ⟨cs1,F1,-,g1,hb1,hs1,r1⟩:=ph0.el (a7 hx1).2.2
  obtain ⟨rfl,-⟩:=r1
  refine lia ph0 hx1 rfl<|lhx 0 0 g1 rfl<|la rfl<|en ?_
  refine ch h rfl ?_ ?_ <;> intro h
  ·refine att 5 [] rfl ?_
   exact rt hF h
  refine att 6 [] rfl ?_
  exact lb [] [] (ih1 _ h)
 refine att 5 [] rfl ?_
 exact rt hF h
theorem gR (w0:ab Ψ Φ []) (p0:(List ByteArray)) (p1:ByteArray) (ph0:RSl RS 1 Ψ pG0 pv0 p0) {r:Bool} (h:bI N p0 p1=some r) :
  CB w0 prog 213 [pv0,.string p1] (.bool r):=by
 refine eN func213 rfl ntmps213 rfl w0 fun hF=>?_
 unfold bI at h
 refine atr 8 [] rfl<|qd h (oL N · p0 p1 ph0 ·) rfl rfl rfl fun x1 h=>art 3 [] rfl ?_
 exact rt hF h
theorem A9 (w0:ab Ψ Φ [ob pv0].flatten) (p0:(List ByteArray)) (p1:ByteArray) (ph0:OSl RS 9 1 Φ [] pv0 p0) {r:(List ByteArray)} (h:nZ N p0 p1=some r) :
  Calls prog 246 [pv0,.string p1].toArray w0.w (aL Φ w0.w [ob pv0].flatten (fun Φ' Fs v=>∃ (sr_0_0:Value),v=sr_0_0∧Fs=[ob sr_0_0]∧OSl RS 9 1 Φ' [] sr_0_0 r)):=by
 refine eL func246 rfl ntmps246 rfl (L:=[ob pv0]) w0 (fun hF=>?_)
 unfold nZ at h
 refine atr 9 [] rfl<|qc h (gR N · p0 p1 ph0.rsl ·) rfl rfl rfl fun x1 h=>en ?_
 refine ch h rfl ?_ ?_ <;> intro h
 ·refine att 5 [] rfl ?_
  exact rtg [0] hF (ao.one rfl) rfl (by cases h; exact fun w1 hw=>⟨pv0,rfl,rfl,ph0⟩)
 refine atr 5 [] rfl ?_
 have rc1:RC RS 1 Φ ([[]]:List (List Nat)) [.string p1] ([p1]:List ByteArray):=RC.cons (c:=[.string p1]) (cells:=[]) ⟨rfl,rfl⟩ rfl (RC.nil _ _ _)
 refine le' (ed (vs:=[(0,.string p1)]) (C:=#[.string p1]) RS.lasts tX Iz rfl rfl rfl rfl (aV FV (ag (C':=[.string p1]) rfl rfl rfl rfl rfl (aq))) rfl rc1 rfl (by simpa using Kw.nil)) rfl ?_
 rintro v1 Φ_1 D1 ⟨fr1,h1⟩
 replace h1:OSl RS 9 1 Φ_1 [] v1 ([p1]:List ByteArray):=by simpa using h1
 replace ph0:=ph0.f0 fr1
 obtain ⟨x2,hx2,h⟩:=bs h
 refine le' (dV RS.lasts RS.one RS.flat tX Ln rfl rfl rfl rfl rfl (js:=[1]) (Rr:=[ob v1]) rfl ph0 h1.rsl hx2) rfl ?_
 rintro v2 Φ_2 D2 ⟨⟨ap1,fr2⟩,h2⟩
 refine la rfl<|en ?_
 exact rtg [0] hF (ao.one rfl) rfl (by cases h; exact fun w1 hw=>⟨v2,rfl,rfl,h2⟩)
theorem rj (w0:ab Ψ Φ [ob pv0].flatten) (p0:(List ByteArray)) (p1:(List aW)) (ph0:OSl RS 9 1 Φ [] pv0 p0) (ph1:RSl bO 5 Ψ pG1 pv1 p1) {r:(List ByteArray)} (h:jt N p0 p1=some r) :
  Calls prog 237 [pv0,pv1].toArray w0.w (aL Φ w0.w [ob pv0].flatten (fun Φ' Fs v=>∃ (sr_0_0:Value),v=sr_0_0∧Fs=[ob sr_0_0]∧OSl RS 9 1 Φ' [] sr_0_0 r)):=by
 refine eL func237 rfl ntmps237 rfl (L:=[ob pv0]) w0 (fun hF=>?_)
 unfold jt at h
 refine atr 8 [] rfl<|lnr ph1 rfl<|art 3 [] rfl ?_
 refine lin (σ:=Hp × (List ByteArray) × Value × Int) (fun s=>[(0,s.2.2.1),(7,pv1),(8,iV (p1.length:Int)),(9,iV s.2.2.2)]) (fun s=>St w0 s.1 [] [ob s.2.2.1]) (fun m s=>eQ N p1 m s.2.1 s.2.2.2=some r∧(OSl RS 9 1 s.1 [] s.2.2.1 s.2.1)) (Φ,p0,pv0,0) N ⟨h,ph0⟩ (sx [0] []) (fun n1 ih1 s hm=>?_)
 obtain ⟨Φ_1,s1,u1,s2⟩:=s
 obtain ⟨h,k1⟩:=hm
 dsimp only at h k1 ⊢
 unfold eQ at h
 refine att 5 [] rfl ?_
 refine ch h rfl ?_ ?_ <;> intro h
 ·refine atr 5 [] rfl ?_
  obtain ⟨x1,hx1,h⟩:=bs h
  obtain ⟨cs1,F1,-,g1,hb1,hs1,r1⟩:=ph1.el (a7 hx1).2.2
  obtain ⟨rfl,-⟩:=r1
  refine lia ph1 hx1 rfl<|lhx 0 5 g1 rfl<|lnz oK rfl fun b_1=>soN 0 qP rfl ⟨rfl,rfl,rfl,rfl,rfl,trivial⟩ rfl ?_
  refine art 7 [0,0] rfl ?_
  refine ch h rfl ?_ ?_ <;> intro h
  ·refine atr 4 [1,0] rfl<|kcb [0] h rfl rfl rfl rfl (fun b ap z q=>A9 N b s1 x1.S k1 q) ?_
   rintro x2 h v1 Φ_2 F2 ⟨ap1,fr1,v2,rfl,rfl,h1⟩
   refine art 7 [] rfl ?_
   exact lb [0] [] (ih1 (_,_,_,_) ⟨h,h1⟩)
  refine att 6 [] rfl ?_
  exact lb [0] [] (ih1 (_,_,_,_) ⟨h,k1⟩)
 refine att 6 [] rfl ?_
 exact rtg [0] hF (ao.one rfl) rfl (by cases h; exact fun w1 hw=>⟨u1,rfl,rfl,k1⟩)
theorem yE (w0:ab Ψ Φ []) (p0:af) (ph0_0:RSl bR 3 Ψ pG0_0 pv0_0 p0.Pats) (ph0_1:RSl aZ 11 Ψ pG0_1 pv0_1 p0.Conds) (ph0_2:RSl dZ 5 Ψ pG0_2 pv0_2 p0.Acts) {r:(List ByteArray)} (h:lE N p0=some r) :
  Calls prog 211 [.agg [.string p0.Name,iV p0.Sal,pv0_0,pv0_1,pv0_2].toArray].toArray w0.w (aL Φ w0.w [] (fun Φ' Fs v=>∃ (sr_0_0:Value),v=sr_0_0∧Fs=[ob sr_0_0]∧OSl RS 9 1 Φ' [] sr_0_0 r)):=by
 refine eN func211 rfl ntmps211 rfl w0 fun hF=>?_
 unfold lE at h
 refine sr<|lbx rfl fun b_1=>arr 11 [2,0] rfl<|lnr ph0_0 rfl<|art 3 [] rfl<|wtS ?_
 have k1:=OSl.nil RS 9 1 Φ
 refine lin (σ:=Hp × (List ByteArray) × Value × Int) (fun s=>[(3,s.2.2.1),(7,pv0_0),(8,iV (p0.Pats.length:Int)),(9,iV s.2.2.2)]) (fun s=>St w0 s.1 [] [ob s.2.2.1]) (fun m s=>eW N p0 m s.2.1 s.2.2.2=some r∧(OSl RS 9 1 s.1 [] s.2.2.1 s.2.1)) (Φ,([]:List ByteArray),(.slice none 0 0),0) N ⟨h,k1⟩ (sx [0] []) (fun n1 ih1 s hm=>?_)
 obtain ⟨Φ_1,s1,u1,s2⟩:=s
 obtain ⟨h,k2⟩:=hm
 dsimp only at h k2 ⊢
 unfold eW at h
 refine att 5 [] rfl ?_
 refine ch h rfl ?_ ?_ <;> intro h
 ·refine atr 5 [] rfl ?_
  obtain ⟨x1,hx1,h⟩:=bs h
  obtain ⟨cs1,F1,-,g1,hb1,hs1,r1⟩:=ph0_0.el (a7 hx1).2.2
  obtain ⟨v1,G1,rfl,hq1,h1⟩:=r1
  obtain rfl:=hq1.symm
  refine lia ph0_0 hx1 rfl<|lhx 0 3 g1 rfl<|lnz pP rfl fun b_2=>soN 0 sX rfl ⟨rfl,h1.one,rfl,trivial⟩ rfl ?_
  refine art 7 [2,0] rfl ?_
  refine ch h rfl ?_ ?_ <;> intro h
  ·refine atr 4 [1,0] rfl<|kcb [0] h rfl rfl rfl rfl (fun b ap z q=>rj N b s1 x1.Args k2 (h1.y z) q) ?_
   rintro x2 h v2 Φ_2 F2 ⟨ap1,fr1,v3,rfl,rfl,h2⟩
   refine art 7 [] rfl ?_
   exact lb [0] [] (ih1 (_,_,_,_) ⟨h,h2⟩)
  refine att 6 [] rfl ?_
  exact lb [0] [] (ih1 (_,_,_,_) ⟨h,k2⟩)
 refine att 6 [] rfl ?_
 exact rtg [0] hF (ao.one rfl) rfl (by cases h; exact fun w1 hw=>⟨u1,rfl,rfl,k2⟩)
theorem xB (w0:ab Ψ Φ []) (p0:af) (ph0_0:RSl bR 3 Ψ pG0_0 pv0_0 p0.Pats) (ph0_1:RSl aZ 11 Ψ pG0_1 pv0_1 p0.Conds) (ph0_2:RSl dZ 5 Ψ pG0_2 pv0_2 p0.Acts) {r:(List ByteArray)} (h:mE N p0=some r) :
  Calls prog 212 [.agg [.string p0.Name,iV p0.Sal,pv0_0,pv0_1,pv0_2].toArray].toArray w0.w (aL Φ w0.w [] (fun Φ' Fs v=>∃ (sr_0_0:Value),v=sr_0_0∧Fs=[ob sr_0_0]∧OSl RS 9 1 Φ' [] sr_0_0 r)):=by
 refine eN func212 rfl ntmps212 rfl w0 fun hF=>?_
 unfold mE at h
 refine sr<|lbx rfl fun b_1=>arr 11 [3,0] rfl<|lnr ph0_1 rfl<|art 3 [] rfl<|wtS ?_
 have k1:=OSl.nil RS 9 1 Φ
 refine lin (σ:=Hp × (List ByteArray) × Value × Int) (fun s=>[(1,pQ b_1),(3,s.2.2.1),(11,pv0_1),(12,iV (p0.Conds.length:Int)),(13,iV s.2.2.2)]) (fun s=>St w0 s.1 [(b_1,.cells #[.string p0.Name,iV p0.Sal,pv0_0,pv0_1,pv0_2] 145 (0,0))] [ob s.2.2.1]) (fun m s=>ff N p0 m s.2.1 s.2.2.2=some r∧(OSl RS 9 1 s.1 [] s.2.2.1 s.2.1)) (Φ,([]:List ByteArray),(.slice none 0 0),0) N ⟨h,k1⟩ (sx [0] [0]) (fun n1 ih1 s hm=>?_)
 obtain ⟨Φ_1,s1,u1,s2⟩:=s
 obtain ⟨h,k2⟩:=hm
 dsimp only at h k2 ⊢
 unfold ff at h
 refine att 5 [] rfl ?_
 refine ch h rfl ?_ ?_ <;> intro h
 ·refine atr 5 [] rfl ?_
  obtain ⟨x1,hx1,h⟩:=bs h
  obtain ⟨cs1,F1,-,g1,hb1,hs1,r1⟩:=ph0_1.el (a7 hx1).2.2
  obtain ⟨rfl,-⟩:=r1
  refine lia ph0_1 hx1 rfl<|lhx 0 11 g1 rfl<|lnz zY rfl fun b_2=>soN 0 CY rfl ⟨rfl,rfl,rfl,rfl,rfl,rfl,rfl,rfl,rfl,rfl,rfl,trivial⟩ rfl ?_
  refine arr 7 [1,5,6,5] rfl ?_
  have rc1:RC bO 5 Φ_1 ([[],[]]:List (List Nat)) [iV x1.L.K,.string x1.L.S,iV x1.L.V.K,iV x1.L.V.N,.string x1.L.V.S,iV x1.R.K,.string x1.R.S,iV x1.R.V.K,iV x1.R.V.N,.string x1.R.V.S] ([x1.L,x1.R]:List aW):=RC.cons (c:=[iV x1.L.K,.string x1.L.S,iV x1.L.V.K,iV x1.L.V.N,.string x1.L.V.S]) (cells:=[iV x1.R.K,.string x1.R.S,iV x1.R.V.K,iV x1.R.V.N,.string x1.R.V.S]) ⟨rfl,rfl⟩ rfl (RC.cons (c:=[iV x1.R.K,.string x1.R.S,iV x1.R.V.K,iV x1.R.V.N,.string x1.R.V.S]) (cells:=[]) ⟨rfl,rfl⟩ rfl (RC.nil _ _ _))
  refine le' (ed (vs:=[(0,.agg [iV x1.L.K,.string x1.L.S,iV x1.L.V.K,iV x1.L.V.N,.string x1.L.V.S].toArray),(1,.agg [iV x1.R.K,.string x1.R.S,iV x1.R.V.K,iV x1.R.V.N,.string x1.R.V.S].toArray)]) (C:=#[iV x1.L.K,.string x1.L.S,iV x1.L.V.K,iV x1.L.V.N,.string x1.L.V.S,iV x1.R.K,.string x1.R.S,iV x1.R.V.K,iV x1.R.V.N,.string x1.R.V.S]) bO.lasts wx oK rfl rfl rfl rfl (aV EC (ag (C':=[iV x1.L.K,.string x1.L.S,iV x1.L.V.K,iV x1.L.V.N,.string x1.L.V.S,iV 0,.string ⟨#[]⟩,iV 0,iV 0,.string ⟨#[]⟩]) rfl rfl rfl rfl rfl (ag (C':=[iV x1.L.K,.string x1.L.S,iV x1.L.V.K,iV x1.L.V.N,.string x1.L.V.S,iV x1.R.K,.string x1.R.S,iV x1.R.V.K,iV x1.R.V.N,.string x1.R.V.S]) rfl rfl rfl rfl rfl (aq)))) rfl rc1 rfl (by simpa using Kw.nil)) rfl ?_
  rintro v1 Φ_2 D1 ⟨fr1,h1⟩
  replace h1:OSl bO 227 5 Φ_2 [] v1 ([x1.L,x1.R]:List aW):=by simpa using h1
  replace k2:=k2.f0 fr1
  refine kcb [1] h rfl rfl rfl rfl (fun b ap z q=>rj N b s1 ([x1.L,x1.R]:List aW) k2 (h1.rsl.x (Dj.app (ap.q 0 rfl) dN)) q) ?_
  rintro x2 h v2 Φ_3 F2 ⟨ap1,fr2,v3,rfl,rfl,h2⟩
  refine art 7 [] rfl ?_
  exact lb [0] [1] (ih1 (_,_,_,_) ⟨h,h2⟩)
 refine atr 6 [4,0] rfl<|lnr ph0_2 rfl<|art 3 [] rfl ?_
 refine lin (σ:=Hp × (List ByteArray) × Value × Int) (fun s=>[(3,s.2.2.1),(26,pv0_2),(27,iV (p0.Acts.length:Int)),(28,iV s.2.2.2)]) (fun s=>St w0 s.1 [] [ob s.2.2.1]) (fun m s=>cu N p0 m s.2.1 s.2.2.2=some r∧(OSl RS 9 1 s.1 [] s.2.2.1 s.2.1)) (Φ_1,s1,u1,0) N ⟨h,k2⟩ (sx [0] []) (fun n2 ih2 s hm=>?_)
 obtain ⟨Φ_4,s3,u2,s4⟩:=s
 obtain ⟨h,k3⟩:=hm
 dsimp only at h k3 ⊢
 unfold cu at h
 refine att 5 [] rfl ?_
 refine ch h rfl ?_ ?_ <;> intro h
 ·refine atr 5 [] rfl ?_
  obtain ⟨x3,hx3,h⟩:=bs h
  obtain ⟨cs2,F3,-,g2,hb2,hs2,r2⟩:=ph0_2.el (a7 hx3).2.2
  obtain ⟨v4,G1,rfl,hq1,h3⟩:=r2
  obtain rfl:=hq1.symm
  refine lia ph0_2 hx3 rfl<|lhx 0 5 g2 rfl<|lnz yR rfl fun b_3=>soN 0 CI rfl ⟨rfl,rfl,h3.one,rfl,rfl,trivial⟩ rfl ?_
  refine arr 5 [2,0] rfl<|lnr h3 rfl<|art 3 [] rfl ?_
  refine lin (σ:=Hp × (List ByteArray) × Value × Int) (fun s=>[(3,s.2.2.1),(26,pv0_2),(27,iV (p0.Acts.length:Int)),(28,iV s4),(33,v4),(34,iV (x3.Args.length:Int)),(35,iV s.2.2.2)]) (fun s=>St w0 s.1 [] [ob s.2.2.1]) (fun m s=>dJ N s4 (cu N p0 n2) x3 m s.2.1 s.2.2.2=some r∧(OSl RS 9 1 s.1 [] s.2.2.1 s.2.1)) (Φ_4,s3,u2,0) N ⟨h,k3⟩ (sx [0] []) (fun n3 ih3 s hm=>?_)
  obtain ⟨Φ_5,s5,u3,s6⟩:=s
  obtain ⟨h,k4⟩:=hm
  dsimp only at h k4 ⊢
  unfold dJ at h
  refine att 5 [] rfl ?_
  refine ch h rfl ?_ ?_ <;> intro h
  ·refine atr 5 [] rfl ?_
   obtain ⟨x4,hx4,h⟩:=bs h
   obtain ⟨cs3,F4,-,g3,hb3,hs3,r3⟩:=h3.el (a7 hx4).2.2
   obtain ⟨rfl,-⟩:=r3
   refine lia h3 hx4 rfl<|lhx 0 11 g3 rfl<|lnz yF rfl fun b_4=>soN 0 DB rfl ⟨rfl,rfl,rfl,rfl,rfl,rfl,rfl,rfl,rfl,rfl,rfl,trivial⟩ rfl ?_
   refine arr 7 [1,5,6,5] rfl ?_
   have rc2:RC bO 5 Φ_5 ([[],[]]:List (List Nat)) [iV x4.L.K,.string x4.L.S,iV x4.L.V.K,iV x4.L.V.N,.string x4.L.V.S,iV x4.R.K,.string x4.R.S,iV x4.R.V.K,iV x4.R.V.N,.string x4.R.V.S] ([x4.L,x4.R]:List aW):=RC.cons (c:=[iV x4.L.K,.string x4.L.S,iV x4.L.V.K,iV x4.L.V.N,.string x4.L.V.S]) (cells:=[iV x4.R.K,.string x4.R.S,iV x4.R.V.K,iV x4.R.V.N,.string x4.R.V.S]) ⟨rfl,rfl⟩ rfl (RC.cons (c:=[iV x4.R.K,.string x4.R.S,iV x4.R.V.K,iV x4.R.V.N,.string x4.R.V.S]) (cells:=[]) ⟨rfl,rfl⟩ rfl (RC.nil _ _ _))
   refine le' (ed (vs:=[(0,.agg [iV x4.L.K,.string x4.L.S,iV x4.L.V.K,iV x4.L.V.N,.string x4.L.V.S].toArray),(1,.agg [iV x4.R.K,.string x4.R.S,iV x4.R.V.K,iV x4.R.V.N,.string x4.R.V.S].toArray)]) (C:=#[iV x4.L.K,.string x4.L.S,iV x4.L.V.K,iV x4.L.V.N,.string x4.L.V.S,iV x4.R.K,.string x4.R.S,iV x4.R.V.K,iV x4.R.V.N,.string x4.R.V.S]) bO.lasts wx oK rfl rfl rfl rfl (aV EC (ag (C':=[iV x4.L.K,.string x4.L.S,iV x4.L.V.K,iV x4.L.V.N,.string x4.L.V.S,iV 0,.string ⟨#[]⟩,iV 0,iV 0,.string ⟨#[]⟩]) rfl rfl rfl rfl rfl (ag (C':=[iV x4.L.K,.string x4.L.S,iV x4.L.V.K,iV x4.L.V.N,.string x4.L.V.S,iV x4.R.K,.string x4.R.S,iV x4.R.V.K,iV x4.R.V.N,.string x4.R.V.S]) rfl rfl rfl rfl rfl (aq)))) rfl rc2 rfl (by simpa using Kw.nil)) rfl ?_
   rintro v5 Φ_6 D2 ⟨fr3,h4⟩
   replace h4:OSl bO 227 5 Φ_6 [] v5 ([x4.L,x4.R]:List aW):=by simpa using h4
   replace k4:=k4.f0 fr3
   refine kcb [1] h rfl rfl rfl rfl (fun b ap z q=>rj N b s5 ([x4.L,x4.R]:List aW) k4 (h4.rsl.x (Dj.app (ap.q 0 rfl) dN)) q) ?_
   rintro x5 h v6 Φ_7 F5 ⟨ap2,fr4,v7,rfl,rfl,h5⟩
   refine art 7 [] rfl ?_
   exact lb [0] [] (ih3 (_,_,_,_) ⟨h,h5⟩)
  refine att 6 [] rfl ?_
  exact lb [0] [] (ih2 (_,_,_,_) ⟨h,k4⟩)
 refine att 6 [] rfl ?_
 exact rtg [0] hF (ao.one rfl) rfl (by cases h; exact fun w1 hw=>⟨u2,rfl,rfl,k3⟩)
theorem BQ (w0:ab Ψ Φ []) (p0:af) (ph0_0:RSl bR 3 Ψ pG0_0 pv0_0 p0.Pats) (ph0_1:RSl aZ 11 Ψ pG0_1 pv0_1 p0.Conds) (ph0_2:RSl dZ 5 Ψ pG0_2 pv0_2 p0.Acts) {r:Bool} (h:qK N p0=some r) :
  CB w0 prog 174 [.agg [.string p0.Name,iV p0.Sal,pv0_0,pv0_1,pv0_2].toArray] (.bool r):=by
 refine eN func174 rfl ntmps174 rfl w0 fun hF=>?_
 unfold qK at h
 refine sr<|lbx rfl fun b_1=>arr 7 [0,0] rfl<|qc h (jf N · p0.Name ·) rfl rfl rfl fun x1 h=>arr 2 [] rfl ?_
 obtain ⟨b1,hb_1,h⟩:=bs h
 refine WL.cutN 5 [(19,.bool b1),(1,pQ b_1)] ?_ (fun K=>?_)
 rotate_left
 ·refine sp 14 hb_1 rfl (fun hb_1=>?_) fun hb_1=>?_
  ·refine arr 5 [] rfl ?_
   cases hb_1
   exact ku K
  ·refine arr 2 [1,0] rfl<|ly rfl rfl<|qc hb_1 (cm N · p0.Sal (-100) 100 ·) rfl rfl rfl fun x2 hb_1=>arr 2 [] rfl ?_
   cases hb_1
   exact ku K
 refine la rfl ?_
 obtain ⟨b2,hb_2,h⟩:=bs h
 refine WL.cutN 4 [(24,.bool b2),(1,pQ b_1)] ?_ (fun K=>?_)
 rotate_left
 ·refine sp 20 hb_2 rfl (fun hb_2=>?_) fun hb_2=>?_
  ·refine arr 4 [] rfl ?_
   cases hb_2
   exact ku K
  ·refine ly rfl rfl<|ld5 tS 0 rfl<|ly rfl rfl<|qd hb_2 (AG N · p0 ph0_0 ph0_1 ph0_2 ·) rfl rfl rfl fun x3 hb_2=>arr 2 [] rfl ?_
   cases hb_2
   exact ku K
 refine en ?_
 refine ch h rfl ?_ ?_ <;> intro h
 ·refine att 4 [] rfl ?_
  exact rt hF h
 refine atr 6 [3,0] rfl<|lnr ph0_1 rfl<|arr 2 [] rfl ?_
 obtain ⟨b3,hb_3,h⟩:=bs h
 refine WL.cutN 6 [(35,.bool b3),(1,pQ b_1)] ?_ (fun K=>?_)
 rotate_left
 ·refine sp 29 hb_3 rfl (fun hb_3=>?_) fun hb_3=>?_
  ·refine arr 6 [] rfl ?_
   cases hb_3
   exact ku K
  ·refine arr 2 [4,0] rfl<|ly rfl rfl<|lnr ph0_2 rfl<|ly rfl rfl<|qc hb_3 (cm N · (p0.Acts.length:Int) 1 6 ·) rfl rfl rfl fun x4 hb_3=>arr 2 [] rfl ?_
   cases hb_3
   exact ku K
 refine en ?_
 refine ch h rfl ?_ ?_ <;> intro h
 ·refine att 4 [] rfl ?_
  exact rt hF h
 refine atr 6 [3,0] rfl<|lnr ph0_1 rfl<|art 3 [] rfl ?_
 refine lin (σ:=Int) (fun s=>[(1,pQ b_1),(37,pv0_1),(38,iV (p0.Conds.length:Int)),(39,iV s)]) (fun s=>St w0 Φ [(b_1,.cells #[.string p0.Name,iV p0.Sal,pv0_0,pv0_1,pv0_2] 145 (0,0))] []) (fun m s=>eG N p0 m s=some r) (0) N h (sx [] [0]) (fun n1 ih1 s hm=>?_)
 revert hm; revert s; intro s1 hm
 have h:eG N p0 (n1+1) s1=some r:=hm
 show WT _ _ [(1,pQ b_1),(37,pv0_1),(38,iV (p0.Conds.length:Int)),(39,iV s1)] (St w0 Φ [(b_1,.cells #[.string p0.Name,iV p0.Sal,pv0_0,pv0_1,pv0_2] 145 (0,0))] [])
 unfold eG at h
 refine att 5 [] rfl ?_
 refine ch h rfl ?_ ?_ <;> intro h
 ·refine atr 5 [] rfl ?_
  obtain ⟨x5,hx5,h⟩:=bs h
  obtain ⟨cs1,F1,-,g1,hb1,hs1,r1⟩:=ph0_1.el (a7 hx5).2.2
  obtain ⟨rfl,-⟩:=r1
  refine lia ph0_1 hx5 rfl<|lhx 0 11 g1 rfl<|lnz zY rfl fun b_2=>soN 0 CY rfl ⟨rfl,rfl,rfl,rfl,rfl,rfl,rfl,rfl,rfl,rfl,rfl,trivial⟩ rfl ?_
  refine arr 4 [11] rfl<|qc h (Aw N · x5 ·) rfl rfl rfl fun x6 h=>la rfl<|en ?_
  refine ch h rfl ?_ ?_ <;> intro h
  ·refine att 4 [] rfl ?_
   exact rt hF h
  refine att 6 [] rfl ?_
  exact lb [] [1] (ih1 _ h)
 refine atr 6 [4,0] rfl<|lnr ph0_2 rfl<|art 3 [] rfl ?_
 refine lin (σ:=Int) (fun s=>[(1,pQ b_1),(48,pv0_2),(49,iV (p0.Acts.length:Int)),(50,iV s)]) (fun s=>St w0 Φ [(b_1,.cells #[.string p0.Name,iV p0.Sal,pv0_0,pv0_1,pv0_2] 145 (0,0))] []) (fun m s=>es N p0 m s=some r) (0) N h (sx [] [0]) (fun n2 ih2 s hm=>?_)
 revert hm; revert s; intro s2 hm
 have h:es N p0 (n2+1) s2=some r:=hm
 show WT _ _ [(1,pQ b_1),(48,pv0_2),(49,iV (p0.Acts.length:Int)),(50,iV s2)] (St w0 Φ [(b_1,.cells #[.string p0.Name,iV p0.Sal,pv0_0,pv0_1,pv0_2] 145 (0,0))] [])
 unfold es at h
 refine att 5 [] rfl ?_
 refine ch h rfl ?_ ?_ <;> intro h
 ·refine atr 5 [] rfl ?_
  obtain ⟨x7,hx7,h⟩:=bs h
  obtain ⟨cs2,F2,-,g2,hb2,hs2,r2⟩:=ph0_2.el (a7 hx7).2.2
  obtain ⟨v1,G1,rfl,hq1,h1⟩:=r2
  obtain rfl:=hq1.symm
  refine lia ph0_2 hx7 rfl<|lhx 0 5 g2 rfl<|lnz yR rfl fun b_3=>soN 0 CI rfl ⟨rfl,rfl,h1.one,rfl,rfl,trivial⟩ rfl ?_
  refine en<|sq<|WT.draw d7 (by kernel_rfl) (fun _ h=>h.drew)<|qq (aw CM rfl (fun w1 hw=>hw.rgO (i:=0) rfl 0 5 [iV x7.Kind,.string x7.Name,v1,iV x7.N,.string x7.Undo] rfl) rfl) rfl ?_
  obtain ⟨x8,hx8,h⟩:=bs h
  refine qp (bM Jw rfl (fun w1 hw=>Eg N (ba hw.in0) x7 h1 hx8)) rfl<|aqq 2 [] rfl ?_
  obtain ⟨b4,hb_4,h⟩:=bs h
  refine WQ.cutN 11 [(68,.bool b4),(1,pQ b_1),(48,pv0_2),(49,iV (p0.Acts.length:Int)),(50,iV s2)] ?_ (fun K=>?_)
  rotate_left
  ·refine WQ.split (d:=57) rfl (fun c9=>?_) (fun c9=>?_)
   ·replace hb_4:=jl hb_4 c9
    refine aqq 11 [] rfl ?_
    cases hb_4
    exact kq K
   ·replace hb_4:=jn hb_4 c9
    refine aqq 4 [0,0] rfl ?_
    obtain ⟨b5,hb_5,hb_4⟩:=bs hb_4
    refine WQ.cutN 6 [(67,.bool b5),(1,pQ b_1),(48,pv0_2),(49,iV (p0.Acts.length:Int)),(50,iV s2),(57,.bool false)] ?_ (fun K=>?_)
    rotate_left
    ·refine WQ.split (d:=61) rfl (fun c10=>?_) (fun c10=>?_)
     ·replace hb_5:=jl hb_5 c10
      refine aqq 3 [3,0,37] rfl<|WQ.yes rfl rfl ?_
      obtain ⟨x9,hx9,hb_5⟩:=bs hb_5
      refine qp (bM GK rfl (fun w1 hw=>oJ N (ba hw.in0) p0 ph0_0 ph0_1 ph0_2 hx9)) rfl<|aqq 2 [] rfl ?_
      cases hb_5
      exact kq K
     ·replace hb_5:=jn hb_5 c10
      refine aqq 6 [] rfl ?_
      cases hb_5
      exact kq K
    refine WQ.q (uf rfl rfl) rfl rfl rfl ?_
    cases hb_4
    exact kq K
  refine WQ.nil ?_
  refine ch h rfl ?_ ?_ <;> intro h
  ·refine att 4 [] rfl ?_
   exact rt hF h
  refine att 6 [] rfl ?_
  exact lb [] [1] (ih2 _ h)
 refine atr 4 [5] rfl<|kab h rfl rfl rfl (fun b z q=>yE N b p0 (ph0_0.y z) (ph0_1.y z) (ph0_2.y z) q) ?_
 rintro x10 h v2 Φ_1 F3 ⟨ap1,fr1,v3,rfl,rfl,h2⟩
 refine arr 6 [5] rfl<|kab h rfl rfl rfl (fun b z q=>xB N b p0 (ph0_0.y z) (ph0_1.y z) (ph0_2.y z) q) ?_
 rintro x11 h v4 Φ_2 F4 ⟨ap2,fr2,v5,rfl,rfl,h3⟩
 replace h2:=h2.fr fr2 (ap2.q 0 rfl) dN
 refine lno h3 rfl<|art 3 [] rfl ?_
 refine lin (σ:=Int) (fun s=>[(7,v2),(73,v4),(74,iV (x11.length:Int)),(75,iV s)]) (fun s=>St w0 Φ_2 [] [ob v4,ob v2]) (fun m s=>eH N x10 x11 m s=some r) (0) N h (sx [0,0] []) (fun n3 ih3 s hm=>?_)
 revert hm; revert s; intro s3 hm
 have h:eH N x10 x11 (n3+1) s3=some r:=hm
 show WT _ _ [(7,v2),(73,v4),(74,iV (x11.length:Int)),(75,iV s3)] (St w0 Φ_2 [] [ob v4,ob v2])
 unfold eH at h
 refine att 5 [] rfl ?_
 refine ch h rfl ?_ ?_ <;> intro h
 ·refine atr 5 [] rfl ?_
  obtain ⟨x12,hx12,h⟩:=bs h
  obtain ⟨cs3,F5,-,g3,hb3,hs3,r3⟩:=h3.elS (a7 hx12).2.2
  obtain ⟨rfl,-⟩:=r3
  refine lio h3 hx12 rfl<|lgx 0 0 g3 rfl<|arr 6 [] rfl<|qc h (gR N · x10 x12 h2.rsl ·) rfl rfl rfl fun x13 h=>la rfl<|en ?_
  refine ch h rfl ?_ ?_ <;> intro h
  ·refine att 4 [] rfl ?_
   exact rt hF h
  refine att 6 [] rfl ?_
  exact lb [0,0] [] (ih3 _ h)
 refine att 5 [] rfl ?_
 exact rt hF h
theorem lO {p1f:Nat} {p1fr:List Value} (w0:ab Ψ Φ []) (p0:(List af)) (p1:af→Option (Bool)) (ph0:RSl bU 5 Ψ pG0 pv0 p0) (p1hF:Fun prog p1f=true) (p1h:∀ {Φ':Hp} {w':World},FrH [] Φ Φ'→In Φ' w'→∀ (p1a0:af) {p1v0_0:Value} {p1G0_0:List Nat} {p1v0_1:Value} {p1G0_1:List Nat} {p1v0_2:Value} {p1G0_2:List Nat} (_:RSl bR 3 Φ' p1G0_0 p1v0_0 p1a0.Pats) (_:RSl aZ 11 Φ' p1G0_1 p1v0_1 p1a0.Conds) (_:RSl dZ 5 Φ' p1G0_2 p1v0_2 p1a0.Acts) {r:Bool},p1 p1a0=some r→Calls prog p1f (([.agg [.string p1a0.Name,iV p1a0.Sal,p1v0_0,p1v0_1,p1v0_2].toArray]:List Value)++p1fr).toArray w' (rR (.bool r) w')) {r:Int} (h:cI N p0 p1=some r) :
  CB w0 prog 214 [pv0,.func (.func p1f) #[] p1fr.toArray] (iV r):=by
 refine eN func214 rfl ntmps214 rfl w0 fun hF=>?_
 unfold cI at h
 refine atr 8 [] rfl<|lnr ph0 rfl<|art 3 [] rfl ?_
 refine lin (σ:=Int) (fun s=>[(0,pv0),(1,.func (.func p1f) #[] p1fr.toArray),(7,iV (p0.length:Int)),(8,iV s)]) (fun s=>St w0 Φ [] []) (fun m s=>aT N p0 p1 m s=some r) (0) N h (sx [] []) (fun n1 ih1 s hm=>?_)
 revert hm; revert s; intro s1 hm
 have h:aT N p0 p1 (n1+1) s1=some r:=hm
 show WT _ _ [(0,pv0),(1,.func (.func p1f) #[] p1fr.toArray),(7,iV (p0.length:Int)),(8,iV s1)] (St w0 Φ [] [])
 unfold aT at h
 refine att 5 [] rfl ?_
 refine ch h rfl ?_ ?_ <;> intro h
 ·refine atr 13 [] rfl ?_
  obtain ⟨x1,hx1,h⟩:=bs h
  obtain ⟨cs1,F1,-,g1,hb1,hs1,r1⟩:=ph0.el (a7 hx1).2.2
  obtain ⟨v1,G1,v2,G2,v3,G3,rfl,rfl,h1,h2,h3⟩:=r1
  refine lia ph0 hx1 rfl<|lhx 0 5 g1 rfl ?_
  obtain ⟨x2,hx2,h⟩:=bs h
  refine lp (sN p1hF rfl rfl (fun w1 hw=>p1h hw.frB hw.fro x1 (h1.y hw.up) (h2.y hw.up) (h3.y hw.up) hx2)) rfl<|en ?_
  refine ch h rfl ?_ ?_ <;> intro h
  ·refine att 5 [] rfl ?_
   exact rt hF h
  refine att 6 [] rfl ?_
  exact lb [] [] (ih1 _ h)
 refine att 5 [] rfl ?_
 exact rt hF h
theorem wO (w0:ab Ψ Φ []) (p0:af) (c0:ByteArray) (ph0_0:RSl bR 3 Ψ pG0_0 pv0_0 p0.Pats) (ph0_1:RSl aZ 11 Ψ pG0_1 pv0_1 p0.Conds) (ph0_2:RSl dZ 5 Ψ pG0_2 pv0_2 p0.Acts) (ppc0:Ψ pbc0=some (.cells #[.string c0] 9 (0,0))) {r:Bool} (h:iN N p0 c0=some r) :
  CB w0 prog 215 [.agg [.string p0.Name,iV p0.Sal,pv0_0,pv0_1,pv0_2].toArray,pQ pbc0] (.bool r):=by
 refine eN func215 rfl ntmps215 rfl w0 fun hF=>?_
 unfold iN at h
 refine sr<|lbx rfl fun b_1=>arr 6 [0,0] rfl<|lhx 0 0 (g9 ppc0) rfl<|art 3 [] rfl ?_
 exact rt hF h
theorem Ay (w0:ab Ψ Φ []) (p0:bl) (p1:ByteArray) (ph0_0:RSl bU 5 Ψ pG0_0 pv0_0 p0.Rules) {r:Int} (h:qG N p0 p1=some r) :
  CB w0 prog 175 [.agg [.string p0.Name,pv0_0].toArray,.string p1] (iV r):=by
 refine eN func175 rfl ntmps175 rfl w0 fun hF=>?_
 unfold qG at h
 refine sr<|lbx rfl fun b_1=>?_
 refine ln (qY (C:=#[.string p1]) rfl (rfl)) rfl (fun b_2=>?_)
 refine arr 6 [1,32] rfl ?_
 refine WL.frz (js:=[0]) (R:=[(b_1,.cells #[.string p0.Name,pv0_0] 47 (0,0))]) rfl (fun Φ_1 fr1 k1=>?_)
 refine lq (uQ rfl) rfl<|qz h (fun b z q=>lO N b p0.Rules (fun a0=>iN N a0 p1) (ph0_0.y z) Jp (fun hle' hin a0=>fun f0 f1 f2=>fun hr=>wO N (ba hin) a0 p1 f0 f1 f2 (hle' _ _ (by simp) k1) hr) q) rfl rfl rfl fun x1 h=>la rfl<|en ?_
 exact rt hF h
theorem Dq (w0:ab Ψ Φ []) (p0:bl) (ph0_0:RSl bU 5 Ψ pG0_0 pv0_0 p0.Rules) {r:Bool} (h:sc N p0=some r) :
  CB w0 prog 126 [.agg [.string p0.Name,pv0_0].toArray] (.bool r):=by
 refine eN func126 rfl ntmps126 rfl w0 fun hF=>?_
 unfold sc at h
 refine sr<|lbx rfl fun b_1=>arr 7 [0,0] rfl<|qc h (jf N · p0.Name ·) rfl rfl rfl fun x1 h=>arr 2 [] rfl ?_
 obtain ⟨b1,hb_1,h⟩:=bs h
 refine WL.cutN 6 [(15,.bool b1),(1,pQ b_1)] ?_ (fun K=>?_)
 rotate_left
 ·refine sp 9 hb_1 rfl (fun hb_1=>?_) fun hb_1=>?_
  ·refine arr 6 [] rfl ?_
   cases hb_1
   exact ku K
  ·refine arr 2 [1,0] rfl<|ly rfl rfl<|lnr ph0_0 rfl<|ly rfl rfl<|qc hb_1 (cm N · (p0.Rules.length:Int) 1 12 ·) rfl rfl rfl fun x2 hb_1=>arr 2 [] rfl ?_
   cases hb_1
   exact ku K
 refine en ?_
 refine ch h rfl ?_ ?_ <;> intro h
 ·refine att 4 [] rfl ?_
  exact rt hF h
 refine atr 6 [1,0] rfl<|lnr ph0_0 rfl<|art 3 [] rfl ?_
 refine lin (σ:=Int) (fun s=>[(1,pQ b_1),(17,pv0_0),(18,iV (p0.Rules.length:Int)),(19,iV s)]) (fun s=>St w0 Φ [(b_1,.cells #[.string p0.Name,pv0_0] 47 (0,0))] []) (fun m s=>fB N p0 m s=some r) (0) N h (sx [] [0]) (fun n1 ih1 s hm=>?_)
 revert hm; revert s; intro s1 hm
 have h:fB N p0 (n1+1) s1=some r:=hm
 show WT _ _ [(1,pQ b_1),(17,pv0_0),(18,iV (p0.Rules.length:Int)),(19,iV s1)] (St w0 Φ [(b_1,.cells #[.string p0.Name,pv0_0] 47 (0,0))] [])
 unfold fB at h
 refine att 5 [] rfl ?_
 refine ch h rfl ?_ ?_ <;> intro h
 ·refine atr 6 [] rfl ?_
  obtain ⟨x3,hx3,h⟩:=bs h
  obtain ⟨cs1,F1,-,g1,hb1,hs1,r1⟩:=ph0_0.el (a7 hx3).2.2
  obtain ⟨v1,G1,v2,G2,v3,G3,rfl,rfl,h1,h2,h3⟩:=r1
  refine lia ph0_0 hx3 rfl<|lhx 0 5 g1 rfl<|lnz wy rfl fun b_2=>la rfl<|soN 0 yN rfl ⟨rfl,rfl,h1.one,h2.one,h3.one,trivial⟩ rfl ?_
  refine arr 4 [5] rfl<|qd h (BQ N · x3 h1 h2 h3 ·) rfl rfl rfl fun x4 h=>arr 2 [] rfl ?_
  obtain ⟨b2,hb_2,h⟩:=bs h
  refine WL.cutN 7 [(34,.bool b2),(1,pQ b_1),(17,pv0_0),(18,iV (p0.Rules.length:Int)),(19,iV s1)] ?_ (fun K=>?_)
  rotate_left
  ·refine sp 27 hb_2 rfl (fun hb_2=>?_) fun hb_2=>?_
   ·refine arr 7 [] rfl ?_
    cases hb_2
    exact ku K
   ·refine arr 3 [34,0,0] rfl<|ly rfl rfl<|qd hb_2 (Ay N · p0 x3.Name ph0_0 ·) rfl rfl rfl fun x5 hb_2=>arr 3 [] rfl ?_
    cases hb_2
    exact ku K
  refine en ?_
  refine ch h rfl ?_ ?_ <;> intro h
  ·refine att 4 [] rfl ?_
   exact rt hF h
  refine att 6 [] rfl ?_
  exact lb [] [1] (ih1 _ h)
 refine att 5 [] rfl ?_
 exact rt hF h
theorem jF (w0:ab Ψ Φ []) (p0:(List aE)) (p1:(List aE)) (ph0:RSl av 3 Ψ pG0 pv0 p0) (ph1:RSl av 3 Ψ pG1 pv1 p1) {r:Bool} (h:bD N p0 p1=some r) :
  CB w0 prog 177 [pv0,pv1] (.bool r):=by
 refine eN func177 rfl ntmps177 rfl w0 fun hF=>?_
 unfold bD at h
 refine atr 8 [] rfl<|lnr ph0 rfl<|la rfl<|lnr ph1 rfl<|la rfl<|en ?_
 refine ch h rfl ?_ ?_ <;> intro h
 ·refine att 4 [] rfl ?_
  exact rt hF h
 refine atr 5 [] rfl<|lnr ph0 rfl<|art 3 [] rfl ?_
 refine lin (σ:=Int) (fun s=>[(0,pv0),(1,pv1),(12,iV (p0.length:Int)),(13,iV s)]) (fun s=>St w0 Φ [] []) (fun m s=>bf N p0 p1 m s=some r) (0) N h (sx [] []) (fun n1 ih1 s hm=>?_)
 revert hm; revert s; intro s1 hm
 have h:bf N p0 p1 (n1+1) s1=some r:=hm
 show WT _ _ [(0,pv0),(1,pv1),(12,iV (p0.length:Int)),(13,iV s1)] (St w0 Φ [] [])
 unfold bf at h
 refine att 5 [] rfl ?_
 refine ch h rfl ?_ ?_ <;> intro h
 ·refine att 9 [] rfl<|WT.draw d7 (by kernel_rfl) (fun _ h=>h.drew)<|aqq 2 [] rfl ?_
  obtain ⟨x1,hx1,h⟩:=bs h
  obtain ⟨cs1,F1,-,g1,hb1,hs1,r1⟩:=ph0.el (a7 hx1).2.2
  obtain ⟨rfl,-⟩:=r1
  refine qq (aa hU rfl rfl ph0 hx1) rfl<|qq (aw kT rfl (fun w1 hw=>(g1.of_eq 0 3 rfl rfl:rg _ _ _ [iV x1.K,iV x1.N,.string x1.S]).rangeAt hw.in0) rfl) rfl<|aqq 2 [] rfl ?_
  obtain ⟨x2,hx2,h⟩:=bs h
  obtain ⟨cs2,F2,-,g2,hb2,hs2,r2⟩:=ph1.el (a7 hx2).2.2
  obtain ⟨rfl,-⟩:=r2
  refine qq (aa hU rfl rfl ph1 hx2) rfl<|qq (aw kT rfl (fun w1 hw=>(g2.of_eq 0 3 rfl rfl:rg _ _ _ [iV x2.K,iV x2.N,.string x2.S]).rangeAt hw.in0) rfl) rfl<|qq (Cj p6 rfl rfl rfl (r:=bF x1 x2) rfl) rfl<|WQ.nil ?_
  refine ch h rfl ?_ ?_ <;> intro h
  ·refine att 4 [] rfl ?_
   exact rt hF h
  refine att 6 [] rfl ?_
  exact lb [] [] (ih1 _ h)
 refine att 5 [] rfl ?_
 exact rt hF h
theorem iw (w0:ab Ψ Φ []) (p0:(List Int)) (p1:(List Int)) (ph0:RSl (RI .i64) 1 Ψ pG0 pv0 p0) (ph1:RSl (RI .i64) 1 Ψ pG1 pv1 p1) {r:Bool} (h:cE N p0 p1=some r) :
  CB w0 prog 178 [pv0,pv1] (.bool r):=by
 refine eN func178 rfl ntmps178 rfl w0 fun hF=>?_
 unfold cE at h
 refine atr 8 [] rfl<|lnr ph0 rfl<|la rfl<|lnr ph1 rfl<|la rfl<|en ?_
 refine ch h rfl ?_ ?_ <;> intro h
 ·refine att 4 [] rfl ?_
  exact rt hF h
 refine atr 5 [] rfl<|lnr ph0 rfl<|art 3 [] rfl ?_
 refine lin (σ:=Int) (fun s=>[(0,pv0),(1,pv1),(12,iV (p0.length:Int)),(13,iV s)]) (fun s=>St w0 Φ [] []) (fun m s=>cz N p0 p1 m s=some r) (0) N h (sx [] []) (fun n1 ih1 s hm=>?_)
 revert hm; revert s; intro s1 hm
 have h:cz N p0 p1 (n1+1) s1=some r:=hm
 show WT _ _ [(0,pv0),(1,pv1),(12,iV (p0.length:Int)),(13,iV s1)] (St w0 Φ [] [])
 unfold cz at h
 refine att 5 [] rfl ?_
 refine ch h rfl ?_ ?_ <;> intro h
 ·refine att 9 [] rfl<|WT.draw d7 (by kernel_rfl) (fun _ h=>h.drew)<|aqq 2 [] rfl ?_
  obtain ⟨x1,hx1,h⟩:=bs h
  obtain ⟨cs1,F1,-,g1,hb1,hs1,r1⟩:=ph0.el (a7 hx1).2.2
  obtain ⟨rfl,-⟩:=r1
  refine qq (aa bg rfl rfl ph0 hx1) rfl<|qq (bk xI rfl (fun w1 hw=>(g1.of_eq 0 1 rfl rfl:rg _ _ _ [iV x1]).rangeAt hw.in0)) rfl<|aqq 2 [] rfl ?_
  obtain ⟨x2,hx2,h⟩:=bs h
  obtain ⟨cs2,F2,-,g2,hb2,hs2,r2⟩:=ph1.el (a7 hx2).2.2
  obtain ⟨rfl,-⟩:=r2
  refine qq (aa bg rfl rfl ph1 hx2) rfl<|qq (bk xI rfl (fun w1 hw=>(g2.of_eq 0 1 rfl rfl:rg _ _ _ [iV x2]).rangeAt hw.in0)) rfl<|aqt 2 [] rfl ?_
  refine ch h rfl ?_ ?_ <;> intro h
  ·refine att 4 [] rfl ?_
   exact rt hF h
  refine att 6 [] rfl ?_
  exact lb [] [] (ih1 _ h)
 refine att 5 [] rfl ?_
 exact rt hF h
theorem sB (w0:ab Ψ Φ []) (p0:a8) (p1:a8) (ph0_0:RSl av 3 Ψ pG0_0 pv0_0 p0.Consts) (ph0_1:RSl (RI .i64) 1 Ψ pG0_1 pv0_1 p0.At) (ph1_0:RSl av 3 Ψ pG1_0 pv1_0 p1.Consts) (ph1_1:RSl (RI .i64) 1 Ψ pG1_1 pv1_1 p1.At) {r:Bool} (h:de N p0 p1=some r) :
  CB w0 prog 129 [.agg [.string p0.Kind,iV p0.N,pv0_0,pv0_1].toArray,.agg [.string p1.Kind,iV p1.N,pv1_0,pv1_1].toArray] (.bool r):=by
 refine eN func129 rfl ntmps129 rfl w0 fun hF=>?_
 unfold de at h
 refine sr<|lbx rfl fun b_1=>lbx rfl fun b_2=>arr 10 [0,32,0,0] rfl ?_
 obtain ⟨b1,hb_1,h⟩:=bs h
 refine WL.cutN 6 [(16,.bool b1),(2,pQ b_1),(3,pQ b_2),(4,.bool false)] ?_ (fun K=>?_)
 rotate_left
 ·refine sp 10 hb_1 rfl (fun hb_1=>?_) fun hb_1=>?_
  ·refine arr 6 [1,32,1,0] rfl ?_
   cases hb_1
   exact ku K
  ·refine arr 6 [] rfl ?_
   cases hb_1
   exact ku K
 refine la rfl ?_
 obtain ⟨b2,hb_2,h⟩:=bs h
 refine WL.cutN 6 [(23,.bool b2),(2,pQ b_1),(3,pQ b_2),(4,.bool false)] ?_ (fun K=>?_)
 rotate_left
 ·refine sp 17 hb_2 rfl (fun hb_2=>?_) fun hb_2=>?_
  ·refine arr 4 [2,32,2,0] rfl<|ly rfl rfl<|qd hb_2 (jF N · p0.Consts p1.Consts ph0_0 ph1_0 ·) rfl rfl rfl fun x1 hb_2=>la rfl ?_
   cases hb_2
   exact ku K
  ·refine arr 6 [] rfl ?_
   cases hb_2
   exact ku K
 refine la rfl ?_
 obtain ⟨b3,hb_3,h⟩:=bs h
 refine WL.cutN 6 [(30,.bool b3),(4,.bool false)] ?_ (fun K=>?_)
 rotate_left
 ·refine sp 24 hb_3 rfl (fun hb_3=>?_) fun hb_3=>?_
  ·refine arr 4 [3,32,3,0] rfl<|ly rfl rfl<|qd hb_3 (iw N · p0.At p1.At ph0_1 ph1_1 ·) rfl rfl rfl fun x2 hb_3=>la rfl ?_
   cases hb_3
   exact ku K
  ·refine arr 6 [] rfl ?_
   cases hb_3
   exact ku K
 refine la rfl<|en ?_
 exact rt hF h
theorem zD (w0:ab Ψ Φ []) (p0:ax) (ph0_0:RSl bO 5 Ψ pG0_0 pv0_0 p0.Args) {r:a8} (h:nU N p0=some r) :
  Calls prog 216 [.agg [.string p0.Kind,pv0_0,.bool p0.Not].toArray].toArray w0.w (aL Φ w0.w [] (fun Φ' Fs v=>∃ (sr_0_0:Value) (sr_0_1:Value),v = .agg [.string r.Kind,iV r.N,sr_0_0,sr_0_1].toArray∧Fs=[ob sr_0_0,ob sr_0_1]∧OSl av 225 3 Φ' [] sr_0_0 r.Consts∧OSl (RI .i64) 3 1 Φ' [] sr_0_1 r.At)):=by
 refine eN func216 rfl ntmps216 rfl w0 fun hF=>?_
 unfold nU at h
 refine sr<|lbx rfl fun b_1=>lnz kX rfl fun b_2=>arr 7 [0,32,1,32] rfl<|lnr ph0_0 rfl<|lq (cG (vs:=[(0,.string p0.Kind),(1,iV (p0.Args.length:Int))]) (C:=#[.string p0.Kind,iV (p0.Args.length:Int),.slice none 0 0,.slice none 0 0]) I5 kX rfl (ag (C':=[.string p0.Kind,iV 0,.slice none 0 0,.slice none 0 0]) rfl rfl rfl rfl rfl (ag (C':=[.string p0.Kind,iV (p0.Args.length:Int),.slice none 0 0,.slice none 0 0]) rfl rfl rfl rfl rfl (aq)))) rfl<|lnz kX rfl fun b_3=>?_
 refine soN 0 rS rfl ⟨rfl,rfl,rfl,rfl,trivial⟩ rfl ?_
 refine arr 6 [1,64] rfl<|lnr ph0_0 rfl<|art 3 [] rfl<|wtS ?_
 have k1:=OSl.nil av 225 3 Φ
 refine wtS ?_
 have k2:=OSl.nil (RI .i64) 3 1 Φ
 refine lin (σ:=Hp × (List aE) × Value × (List Int) × Value × Int) (fun s=>[(2,pQ b_2),(3,pQ b_3),(13,pv0_0),(14,iV (p0.Args.length:Int)),(15,iV s.2.2.2.2.2)]) (fun s=>St w0 s.1 [(b_3,.cells #[.string p0.Kind,iV (p0.Args.length:Int),s.2.2.1,s.2.2.2.2.1] 148 (0,0)),(b_2,.cells #[.string (⟨#[]⟩:ByteArray),iV 0,.slice none 0 0,.slice none 0 0] 148 (0,0))] [ob s.2.2.2.2.1,ob s.2.2.1]) (fun m s=>eX N p0 m s.2.1 s.2.2.2.1 s.2.2.2.2.2=some r∧(OSl av 225 3 s.1 [] s.2.2.1 s.2.1)∧(OSl (RI .i64) 3 1 s.1 [] s.2.2.2.2.1 s.2.2.2.1)) (Φ,([]:List aE),(.slice none 0 0),([]:List Int),(.slice none 0 0),0) N ⟨h,k1,k2⟩ (sx [0,0] [0,0]) (fun n1 ih1 s hm=>?_)
 obtain ⟨Φ_1,s1,u1,s2,u2,s3⟩:=s
 obtain ⟨h,k3,k4⟩:=hm
 dsimp only at h k3 k4 ⊢
 unfold eX at h
 refine att 5 [] rfl ?_
 refine ch h rfl ?_ ?_ <;> intro h
 ·refine atr 6 [] rfl ?_
  obtain ⟨x1,hx1,h⟩:=bs h
  obtain ⟨cs1,F1,-,g1,hb1,hs1,r1⟩:=ph0_0.el (a7 hx1).2.2
  obtain ⟨rfl,-⟩:=r1
  refine lia ph0_0 hx1 rfl<|lhx 0 5 g1 rfl<|lnz oK rfl fun b_4=>la rfl<|soN 0 qP rfl ⟨rfl,rfl,rfl,rfl,rfl,trivial⟩ rfl ?_
  refine art 7 [0,0] rfl ?_
  refine ch h rfl ?_ ?_ <;> intro h
  ·refine atr 6 [2,32,2,3] rfl ?_
   have rc1:RC av 3 Φ_1 ([[]]:List (List Nat)) [iV x1.V.K,iV x1.V.N,.string x1.V.S] ([x1.V]:List aE):=RC.cons (c:=[iV x1.V.K,iV x1.V.N,.string x1.V.S]) (cells:=[]) ⟨rfl,rfl⟩ rfl (RC.nil _ _ _)
   refine le' (ed (vs:=[(0,.agg [iV x1.V.K,iV x1.V.N,.string x1.V.S].toArray)]) (C:=#[iV x1.V.K,iV x1.V.N,.string x1.V.S]) av.lasts hU jk rfl rfl rfl rfl (aV Et (ag (C':=[iV x1.V.K,iV x1.V.N,.string x1.V.S]) rfl rfl rfl rfl rfl (aq))) rfl rc1 rfl (by simpa using Kw.nil)) rfl ?_
   rintro v1 Φ_2 D1 ⟨fr1,h1⟩
   replace h1:OSl av 225 3 Φ_2 [] v1 ([x1.V]:List aE):=by simpa using h1
   replace k3:=k3.f0 fr1
   replace k4:=k4.f0 fr1
   obtain ⟨x2,hx2,h⟩:=bs h
   refine le' (dV av.lasts av.one av.flat hU De rfl rfl rfl rfl rfl (js:=[2]) (Rr:=[ob v1,ob u2]) rfl k3 h1.rsl hx2) rfl ?_
   rintro v2 Φ_3 D2 ⟨⟨ap1,fr2⟩,h2⟩
   replace k4:=k4.fr fr2 (ap1.q 1 rfl) dN
   refine lf wg rfl rfl rfl<|so1 1 zO rfl h2.one ?_
   refine arr 5 [3,32] rfl ?_
   have rc2:RC (RI .i64) 1 Φ_3 ([[]]:List (List Nat)) [iV s3] ([s3]:List Int):=RC.cons (c:=[iV s3]) (cells:=[]) ⟨rfl,rfl⟩ rfl (RC.nil _ _ _)
   refine le' (ed (vs:=[(0,iV s3)]) (C:=#[iV s3]) RI.lasts bg sW rfl rfl rfl rfl (aV tL (ag (C':=[iV s3]) rfl rfl rfl rfl rfl (aq))) rfl rc2 rfl (by simpa using Kw.nil)) rfl ?_
   rintro v3 Φ_4 D3 ⟨fr3,h3⟩
   replace h3:OSl (RI .i64) 3 1 Φ_4 [] v3 ([s3]:List Int):=by simpa using h3
   replace h2:=h2.f0 fr3
   replace k4:=k4.f0 fr3
   obtain ⟨x3,hx3,h⟩:=bs h
   refine le' (dV RI.lasts RI.one RI.flat bg ui rfl rfl rfl rfl rfl (js:=[3]) (Rr:=[ob v3,ob v2,ob v1]) rfl k4 h3.rsl hx3) rfl ?_
   rintro v4 Φ_5 D4 ⟨⟨ap2,fr4⟩,h4⟩
   replace h2:=h2.fr fr4 (ap2.q 1 rfl) dN
   refine lf ub rfl rfl rfl<|so1 1 mf rfl h4.one ?_
   refine art 6 [] rfl ?_
   exact lb [0,1] [1,1] (ih1 (_,_,_,_,_,_) ⟨h,h2,h4⟩)
  refine att 6 [] rfl ?_
  exact lb [0,0] [1,1] (ih1 (_,_,_,_,_,_) ⟨h,k3,k4⟩)
 refine atr 4 [4] rfl<|soN 1 rS rfl ⟨rfl,rfl,k3.one,k4.one,trivial⟩ rfl ?_
 refine en ?_
 exact rtg [1,0] hF (ao.one (bB qL rfl (fun w1 hw=>hw.rgO (i:=1) rfl 0 4 [.string p0.Kind,iV (p0.Args.length:Int),u1,u2] rfl) rfl)) rfl (by cases h; exact fun w1 hw=>⟨u1,u2,rfl,rfl,k3,k4⟩)
theorem uP (w0:ab Ψ Φ [[pb0],ob pv0_0,pD0_0].flatten) (p0:bd) (p1:ax) (ph0_0:OSl aK 148 4 Φ pD0_0 pv0_0 p0.Alphas) (ph0_1:RSl bv 2 Ψ pG0_1 pv0_1 p0.Chains) (pp0:Φ pb0=some (.cells #[pv0_0,pv0_1] 52 (0,0))) (ph1_0:RSl bO 5 Ψ pG1_0 pv1_0 p1.Args) {r:Int × bd} (h:iF N p0 p1=some r) :
  Calls prog 176 [pQ pb0,.agg [.string p1.Kind,pv1_0,.bool p1.Not].toArray].toArray w0.w (aL Φ w0.w [[pb0],ob pv0_0,pD0_0].flatten (fun Φ' Fs v=>∃ (so_0_0:Value) (Do_0_0:List Nat),v=iV r.1∧Fs=[[pb0],ob so_0_0,Do_0_0]∧OSl aK 148 4 Φ' Do_0_0 so_0_0 r.2.Alphas∧r.2.Chains=p0.Chains∧Φ' pb0=some (.cells #[so_0_0,pv0_1] 52 (0,0)))):=by
 refine eL func176 rfl ntmps176 rfl (L:=[[pb0],ob pv0_0,pD0_0]) w0 (fun hF=>?_)
 unfold iF at h
 refine sr<|lbx rfl fun b_1=>arr 5 [3] rfl<|kab h rfl rfl rfl (fun b z q=>zD N b p1 (ph1_0.y z) q) ?_
 rintro x1 h v1 Φ_1 F1 ⟨ap1,fr1,v2,v3,rfl,rfl,h1,h2⟩
 replace ph0_0:=ph0_0.fr fr1 (ap1.q 1 rfl) (ap1.q 2 rfl)
 replace pp0:=fr1 _ _ ((ap1.q 0 rfl) _ (by simp)) pp0
 refine lnz kX rfl fun b_2=>soN 0 rS rfl ⟨rfl,rfl,h1.one,h2.one,trivial⟩ rfl ?_
 refine arr 5 [] rfl<|lq (d9 rfl) rfl<|lf oe rfl rfl rfl<|lgx 0 0 (g9 pp0) rfl<|lno ph0_0 rfl<|art 3 [] rfl ?_
 refine lin (σ:=Int) (fun s=>[(0,pQ pb0),(5,pQ b_2),(13,pv0_0),(14,iV (p0.Alphas.length:Int)),(15,iV s)]) (fun s=>St w0 Φ_1 [(b_2,.cells #[.string x1.Kind,iV x1.N,v2,v3] 148 (0,0))] [ob v2,ob v3,[pb0],ob pv0_0,pD0_0]) (fun m s=>cn N p0 x1 m s=some r) (0) N h (sx [0,0,0,0,0] [0]) (fun n1 ih1 s hm=>?_)
 revert hm; revert s; intro s1 hm
 have h:cn N p0 x1 (n1+1) s1=some r:=hm
 show WT _ _ [(0,pQ pb0),(5,pQ b_2),(13,pv0_0),(14,iV (p0.Alphas.length:Int)),(15,iV s1)] (St w0 Φ_1 [(b_2,.cells #[.string x1.Kind,iV x1.N,v2,v3] 148 (0,0))] [ob v2,ob v3,[pb0],ob pv0_0,pD0_0])
 unfold cn at h
 refine att 5 [] rfl ?_
 refine ch h rfl ?_ ?_ <;> intro h
 ·refine atr 6 [] rfl ?_
  obtain ⟨x2,hx2,h⟩:=bs h
  obtain ⟨cs1,F2,-,g1,hb1,hs1,r1⟩:=ph0_0.elS (a7 hx2).2.2
  obtain ⟨v4,v5,rfl,rfl,h3,h4⟩:=r1
  have h5:=h3.rsl
  have h6:=h4.rsl
  refine lio ph0_0 hx2 rfl<|lgx 0 4 g1 rfl<|lnz kX rfl fun b_3=>la rfl<|soN 0 rS rfl ⟨rfl,rfl,h5.one,h6.one,trivial⟩ rfl ?_
  refine arr 5 [4,36] rfl<|qc h (sB N · x2 x1 h5 h6 h1.rsl h2.rsl ·) rfl rfl rfl fun x3 h=>en ?_
  refine ch h rfl ?_ ?_ <;> intro h
  ·refine att 5 [] rfl ?_
   exact rtg [2,2,2] hF (ao.one rfl) rfl (by cases h; exact fun w1 hw=>⟨pv0_0,pD0_0,rfl,rfl,ph0_0,rfl,pp0⟩)
  refine att 6 [] rfl ?_
  exact lb [0,0,0,0,0] [1] (ih1 _ h)
 refine xt rfl<|sq<|WT.mix (Kn w0 Φ_1 [pb0] [(b_2,.cells #[.string x1.Kind,iV x1.N,v2,v3] 148 (0,0))]) (fun i=>match i with | 10=>false | _=>true) d7 (fun _ h=>h.drew)<|ma 0 rfl (by kernel_rfl) (kn Kf.id (am [0] rfl)) rfl<|ma 1 rfl (by kernel_rfl) (kn Kf.id (am [0] rfl)) rfl<|mq 2 rfl (by kernel_rfl) (kn Kf.id (am [0] rfl)) (d9 rfl) rfl<|mq 3 rfl (by kernel_rfl) (kn Kf.id (am [0] rfl)) (aH oe rfl) rfl ?_
 refine mq 4 rfl (by kernel_rfl) (kn Kf.id (am [0] rfl)) (bk HZ rfl (fun w1 hw=>hw.rg (by simp) ((g9 pp0).of_eq 0 1 rfl rfl:rg _ _ _ [pv0_0]))) rfl<|mq 5 rfl (by kernel_rfl) (kn Kf.id (am [0] rfl)) (aw qL rfl (fun w1 hw=>hw.rgO (i:=0) rfl 0 4 [.string x1.Kind,iV x1.N,v2,v3] rfl) rfl) rfl ?_
 have rc1:RC aK 4 Φ_1 ([(ob v2++[])++((ob v3++[]))]:List (List Nat)) [.string x1.Kind,iV x1.N,v2,v3] ([x1]:List a8):=RC.cons (c:=[.string x1.Kind,iV x1.N,v2,v3]) (cells:=[]) ⟨v2,v3,rfl,rfl,h1,h2⟩ rfl (RC.nil _ _ _)
 refine WM.one 6 (by kernel_rfl) (me rfl (fun _ v Φx D w1 hq hw=>Kn.of (Kf.id.se hq.1) (am [0] rfl) hw) (ed (vs:=[(0,.agg [.string x1.Kind,iV x1.N,v2,v3].toArray)]) (C:=#[.string x1.Kind,iV x1.N,v2,v3]) aK.lasts uA kX rfl rfl rfl rfl (aV ER (ag (C':=[.string x1.Kind,iV x1.N,v2,v3]) rfl rfl rfl rfl rfl (aq))) rfl rc1 rfl (RC.kn aK.knows rc1)) rfl ?_)
 rintro v6 Φ_2 D1 ⟨fr2,h7⟩
 replace h7:OSl aK 148 4 Φ_2 ((ob v2++[])++((ob v3++[]))) v6 ([x1]:List a8):=by simpa [List.append_assoc] using h7
 replace ph0_0:=ph0_0.f0 fr2
 replace pp0:=fr2 _ _ (by simp) pp0
 refine WM.conv (S':=St w0 Φ_2 [(b_2,.cells #[.string x1.Kind,iV x1.N,v2,v3] 148 (0,0))] [((ob v2++[])++((ob v3++[]))),ob v6,[pb0],ob pv0_0,pD0_0]) (fun w1 hw=>hw.merge (js:=[1,1]) rfl (SP.eq (by simp [List.append_assoc,bm]))) ?_
 obtain ⟨x4,hx4,h⟩:=bs h
 have kf1:=(Kf.id (F:=[pb0]):Kf Φ_1 _ _).se fr2
 refine WM.one 7 (by kernel_rfl) (me rfl (fun _ v Φx D w1 hq hw=>Kn.of (kf1.st hq.1.2 (hq.1.1.r (i:=2) rfl)) (am [0] rfl) hw) (kj aK.lasts aK.one uA HE rfl rfl rfl rfl rfl (js:=[3]) (Rr:=[((ob v2++[])++((ob v3++[]))),ob v6,[pb0],pD0_0]) rfl ph0_0 h7 (fun ap=>ap.q 3 rfl) (fun ap=>ap.q 0 rfl) hx4) rfl ?_)
 rintro v7 Φ_3 D2 ⟨⟨ap2,fr3⟩,h8⟩
 replace pp0:=fr3 _ _ ((ap2.q 2 rfl) _ (by simp)) pp0
 refine WM.conv (S':=St w0 Φ_3 [(b_2,.cells #[.string x1.Kind,iV x1.N,v2,v3] 148 (0,0))] [(pD0_0++((ob v2++[])++((ob v3++[])))),ob v7,ob v6,[pb0]]) (fun w1 hw=>hw.merge (js:=[4,1]) rfl (SP.eq (by simp))) ?_
 have kf2:=kf1.st fr3 (ap2.q 2 rfl)
 refine mqT 8 [9,10] rfl (by kernel_rfl) (kn kf2 (am [0] rfl)) (d9 rfl) rfl<|mq 9 rfl (by kernel_rfl) (kn kf2 (am [0] rfl)) (aH oe rfl) rfl ?_
 refine WM.thw (js:=[3]) (R:=[(pD0_0++((ob v2++[])++((ob v3++[])))),ob v7,ob v6]) rfl pp0 (fun Φ_4 ap3 fr4=>?_)
 replace h8:=h8.fr fr4 (ap3.q 1 rfl) (ap3.q 0 rfl)
 refine on1 10 (ms1 0 rfl nk I8 rfl h8.one ?_)
 refine WM.nil (by kernel_rfl)<|sr<|la rfl<|lq (d9 rfl) rfl<|arr 2 [0,0] rfl<|lno h8 rfl<|art 3 [] rfl ?_
 refine WT.frz (js:=[0]) (R:=[(b_2,.cells #[.string x1.Kind,iV x1.N,v2,v3] 148 (0,0))]) rfl (fun Φ_5 fr5 k1=>?_)
 replace h8:=h8.f0 fr5
 exact rtg [0,1,0] hF (ao.one rfl) rfl (by cases h; exact fun w1 hw=>⟨v7,(pD0_0++((ob v2++[])++((ob v3++[])))),rfl,rfl,h8,rfl,k1⟩)
theorem Dl (w0:ab Ψ Φ []) (p0:bl) (ph0_0:RSl bU 5 Ψ pG0_0 pv0_0 p0.Rules) {r:bd} (h:sM N p0=some r) :
  Calls prog 127 [.agg [.string p0.Name,pv0_0].toArray].toArray w0.w (aL Φ w0.w [] (fun Φ' Fs v=>∃ (sr_0_0:Value) (Dr_0_0:List Nat) (sr_0_1:Value) (Dr_0_1:List Nat),v = .agg [sr_0_0,sr_0_1].toArray∧Fs=[ob sr_0_0,Dr_0_0,ob sr_0_1,Dr_0_1]∧OSl aK 148 4 Φ' Dr_0_0 sr_0_0 r.Alphas∧OSl aD 150 2 Φ' Dr_0_1 sr_0_1 r.Chains)):=by
 refine eN func127 rfl ntmps127 rfl w0 fun hF=>?_
 unfold sM at h
 refine sr<|lbx rfl fun b_1=>lnz w5 rfl fun b_2=>en<|sr<|lnz w5 rfl fun b_3=>arr 6 [1,64] rfl<|lnr ph0_0 rfl<|art 3 [] rfl<|wtS<|wt0 ?_
 have k1:=OSl.nil aK 148 4 Φ
 refine wtS<|wt0 ?_
 have k2:=OSl.nil aD 150 2 Φ
 refine lin (σ:=Hp × (List a8) × Value × List Nat × (List ac) × Value × List Nat × Int) (fun s=>[(2,pQ b_2),(3,pQ b_3),(11,pv0_0),(12,iV (p0.Rules.length:Int)),(13,iV s.2.2.2.2.2.2.2)]) (fun s=>St w0 s.1 [(b_3,.cells #[s.2.2.1,s.2.2.2.2.2.1] 52 (0,0)),(b_2,.cells #[.slice none 0 0,.slice none 0 0] 52 (0,0))] [s.2.2.2.2.2.2.1,ob s.2.2.2.2.2.1,s.2.2.2.1,ob s.2.2.1]) (fun m s=>eo N p0 m s.2.1 s.2.2.2.2.1 s.2.2.2.2.2.2.2=some r∧(OSl aK 148 4 s.1 s.2.2.2.1 s.2.2.1 s.2.1)∧(OSl aD 150 2 s.1 s.2.2.2.2.2.2.1 s.2.2.2.2.2.1 s.2.2.2.2.1)) (Φ,([]:List a8),(.slice none 0 0),[],([]:List ac),(.slice none 0 0),[],0) N ⟨h,k1,k2⟩ (sx [0,0,0,0] [0,0]) (fun n1 ih1 s hm=>?_)
 obtain ⟨Φ_1,s1,u1,D1,s2,u2,D2,s3⟩:=s
 obtain ⟨h,k3,k4⟩:=hm
 dsimp only at h k3 k4 ⊢
 unfold eo at h
 refine att 5 [] rfl ?_
 refine ch h rfl ?_ ?_ <;> intro h
 ·refine atr 5 [] rfl ?_
  obtain ⟨x1,hx1,h⟩:=bs h
  obtain ⟨cs1,F1,-,g1,hb1,hs1,r1⟩:=ph0_0.el (a7 hx1).2.2
  obtain ⟨v1,G1,v2,G2,v3,G3,rfl,rfl,h1,h2,h3⟩:=r1
  refine lia ph0_0 hx1 rfl<|lhx 0 5 g1 rfl<|lnz wy rfl fun b_4=>soN 0 yN rfl ⟨rfl,rfl,h1.one,h2.one,h3.one,trivial⟩ rfl ?_
  refine en<|sr<|lnz rc rfl fun b_5=>arr 6 [2,32] rfl<|lnr h1 rfl<|art 3 [] rfl<|wtS ?_
  have k5:=OSl.nil (RI .i64) 3 1 Φ_1
  refine wtS ?_
  have k6:=OSl.nil (RI .i64) 3 1 Φ_1
  refine lin (σ:=Hp × (List a8) × Value × List Nat × (List Int) × Value × (List Int) × Value × Int) (fun s=>[(2,pQ b_2),(3,pQ b_3),(6,pQ b_5),(11,pv0_0),(12,iV (p0.Rules.length:Int)),(13,iV s3),(18,v1),(19,iV (x1.Pats.length:Int)),(20,iV s.2.2.2.2.2.2.2.2)]) (fun s=>St w0 s.1 [(b_5,.cells #[s.2.2.2.2.2.2.2.1,s.2.2.2.2.2.1] 150 (0,0)),(b_3,.cells #[s.2.2.1,u2] 52 (0,0)),(b_2,.cells #[.slice none 0 0,.slice none 0 0] 52 (0,0))] [ob s.2.2.2.2.2.2.2.1,ob s.2.2.2.2.2.1,D2,ob u2,s.2.2.2.1,ob s.2.2.1]) (fun m s=>fG N s2 s3 (eo N p0 n1) x1 m s.2.1 s.2.2.2.2.1 s.2.2.2.2.2.2.1 s.2.2.2.2.2.2.2.2=some r∧(OSl aK 148 4 s.1 s.2.2.2.1 s.2.2.1 s.2.1)∧(OSl aD 150 2 s.1 D2 u2 s2)∧(OSl (RI .i64) 3 1 s.1 [] s.2.2.2.2.2.1 s.2.2.2.2.1)∧(OSl (RI .i64) 3 1 s.1 [] s.2.2.2.2.2.2.2.1 s.2.2.2.2.2.2.1)) (Φ_1,s1,u1,D1,([]:List Int),(.slice none 0 0),([]:List Int),(.slice none 0 0),0) N ⟨h,k3,k4,k5,k6⟩ (sx [0,0,0,0,0,0] [0,1,1]) (fun n2 ih2 s hm=>?_)
  obtain ⟨Φ_2,s4,u3,D3,s5,u4,s6,u5,s7⟩:=s
  obtain ⟨h,k7,k4,k8,k9⟩:=hm
  dsimp only at h k7 k4 k8 k9 ⊢
  unfold fG at h
  refine att 5 [] rfl ?_
  refine ch h rfl ?_ ?_ <;> intro h
  ·refine atr 5 [] rfl ?_
   obtain ⟨x2,hx2,h⟩:=bs h
   obtain ⟨cs2,F2,-,g2,hb2,hs2,r2⟩:=h1.el (a7 hx2).2.2
   obtain ⟨v4,G4,rfl,hq1,h4⟩:=r2
   obtain rfl:=hq1.symm
   refine lia h1 hx2 rfl<|lhx 0 3 g2 rfl<|lnz pP rfl fun b_6=>soN 0 sX rfl ⟨rfl,h4.one,rfl,trivial⟩ rfl ?_
   refine arr 4 [3] rfl ?_
   refine WL.frz (js:=[2]) (R:=[(b_6,.cells #[.string x2.Kind,v4,.bool x2.Not] 214 (0,0)),(b_5,.cells #[u5,u4] 150 (0,0)),(b_2,.cells #[.slice none 0 0,.slice none 0 0] 52 (0,0))]) rfl (fun Φ_3 fr1 k10=>?_)
   replace k7:=k7.f0 fr1
   replace k4:=k4.f0 fr1
   replace k8:=k8.f0 fr1
   replace k9:=k9.f0 fr1
   refine kcb [0,5,4] h rfl rfl rfl rfl (fun b ap z q=>uP N b (⟨s4,s2⟩:bd) x2 k7 ((k4.rslG aD.gives).x (Dj.app (ap.q 3 rfl) (ap.q 2 rfl))) k10 (h4.y z) q) ?_
   rintro x3 h v5 Φ_4 F3 ⟨ap1,fr2,v6,D4,rfl,rfl,h5,e1,h6⟩
   replace k4:=k4.fr fr2 (ap1.q 3 rfl) (ap1.q 2 rfl)
   replace k8:=k8.fr fr2 (ap1.q 1 rfl) dN
   replace k9:=k9.fr fr2 (ap1.q 0 rfl) dN
   refine art 7 [2,0] rfl ?_
   refine ch h rfl ?_ ?_ <;> intro h
   ·refine atr 4 [1,32] rfl ?_
    have rc1:RC (RI .i64) 1 Φ_4 ([[]]:List (List Nat)) [iV x3.1] ([x3.1]:List Int):=RC.cons (c:=[iV x3.1]) (cells:=[]) ⟨rfl,rfl⟩ rfl (RC.nil _ _ _)
    refine le' (ed (vs:=[(0,iV x3.1)]) (C:=#[iV x3.1]) RI.lasts bg sW rfl rfl rfl rfl (aV tL (ag (C':=[iV x3.1]) rfl rfl rfl rfl rfl (aq))) rfl rc1 rfl (by simpa using Kw.nil)) rfl ?_
    rintro v7 Φ_5 D5 ⟨fr3,h7⟩
    replace h7:OSl (RI .i64) 3 1 Φ_5 [] v7 ([x3.1]:List Int):=by simpa using h7
    replace k4:=k4.f0 fr3
    replace k8:=k8.f0 fr3
    replace k9:=k9.f0 fr3
    replace h5:=h5.f0 fr3
    replace h6:=fr3 _ _ (by simp) h6
    obtain ⟨x4,hx4,h⟩:=bs h
    refine le' (dV RI.lasts RI.one RI.flat bg ui rfl rfl rfl rfl rfl (js:=[5]) (Rr:=[ob v7,[b_3],ob v6,D4,ob u5,D2,ob u2]) rfl k8 h7.rsl hx4) rfl ?_
    rintro v8 Φ_6 D6 ⟨⟨ap2,fr4⟩,h8⟩
    replace k4:=k4.fr fr4 (ap2.q 6 rfl) (ap2.q 5 rfl)
    replace k9:=k9.fr fr4 (ap2.q 4 rfl) dN
    replace h5:=h5.fr fr4 (ap2.q 2 rfl) (ap2.q 3 rfl)
    replace h6:=fr4 _ _ ((ap2.q 1 rfl) _ (by simp)) h6
    refine lf nq rfl rfl rfl<|so1 1 mf rfl h8.one ?_
    refine art 6 [] rfl ?_
    refine WT.thw (js:=[2]) (R:=[ob v8,ob v7,ob v6,D4,ob u5,D2,ob u2]) rfl h6 (fun Φ_7 ap3 fr5=>?_)
    replace k4:=k4.fr fr5 (ap3.q 6 rfl) (ap3.q 5 rfl)
    replace h8:=h8.fr fr5 (ap3.q 0 rfl) dN
    replace k9:=k9.fr fr5 (ap3.q 4 rfl) dN
    replace h5:=h5.fr fr5 (ap3.q 2 rfl) (ap3.q 3 rfl)
    exact lb [4,0,3,3,2,1] [2,0,1] (ih2 (_,_,_,_,_,_,_,_,_) ⟨h,h5,k4,h8,k9⟩)
   refine atr 4 [0,32] rfl ?_
   have rc2:RC (RI .i64) 1 Φ_4 ([[]]:List (List Nat)) [iV x3.1] ([x3.1]:List Int):=RC.cons (c:=[iV x3.1]) (cells:=[]) ⟨rfl,rfl⟩ rfl (RC.nil _ _ _)
   refine le' (ed (vs:=[(0,iV x3.1)]) (C:=#[iV x3.1]) RI.lasts bg sW rfl rfl rfl rfl (aV tL (ag (C':=[iV x3.1]) rfl rfl rfl rfl rfl (aq))) rfl rc2 rfl (by simpa using Kw.nil)) rfl ?_
   rintro v9 Φ_8 D7 ⟨fr6,h9⟩
   replace h9:OSl (RI .i64) 3 1 Φ_8 [] v9 ([x3.1]:List Int):=by simpa using h9
   replace k4:=k4.f0 fr6
   replace k8:=k8.f0 fr6
   replace k9:=k9.f0 fr6
   replace h5:=h5.f0 fr6
   replace h6:=fr6 _ _ (by simp) h6
   obtain ⟨x5,hx5,h⟩:=bs h
   refine le' (dV RI.lasts RI.one RI.flat bg ui rfl rfl rfl rfl rfl (js:=[4]) (Rr:=[ob v9,[b_3],ob v6,D4,ob u4,D2,ob u2]) rfl k9 h9.rsl hx5) rfl ?_
   rintro v10 Φ_9 D8 ⟨⟨ap4,fr7⟩,h10⟩
   replace k4:=k4.fr fr7 (ap4.q 6 rfl) (ap4.q 5 rfl)
   replace k8:=k8.fr fr7 (ap4.q 4 rfl) dN
   replace h5:=h5.fr fr7 (ap4.q 2 rfl) (ap4.q 3 rfl)
   replace h6:=fr7 _ _ ((ap4.q 1 rfl) _ (by simp)) h6
   refine lf nt rfl rfl rfl<|so1 1 mf rfl h10.one ?_
   refine art 6 [] rfl ?_
   refine WT.thw (js:=[2]) (R:=[ob v10,ob v9,ob v6,D4,ob u4,D2,ob u2]) rfl h6 (fun Φ_10 ap5 fr8=>?_)
   replace k4:=k4.fr fr8 (ap5.q 6 rfl) (ap5.q 5 rfl)
   replace k8:=k8.fr fr8 (ap5.q 4 rfl) dN
   replace h10:=h10.fr fr8 (ap5.q 0 rfl) dN
   replace h5:=h5.fr fr8 (ap5.q 2 rfl) (ap5.q 3 rfl)
   exact lb [0,3,3,3,2,1] [2,0,1] (ih2 (_,_,_,_,_,_,_,_,_) ⟨h,h5,k4,k8,h10⟩)
  refine atr 5 [1,32,2] rfl ?_
  have rc3:RC aD 2 Φ_2 ([(ob u5++[])++((ob u4++[]))]:List (List Nat)) [u5,u4] ([(⟨s6,s5⟩:ac)]:List ac):=RC.cons (c:=[u5,u4]) (cells:=[]) ⟨u5,u4,rfl,rfl,k9,k8⟩ rfl (RC.nil _ _ _)
  refine le' (ed (vs:=[(0,.agg [u5,u4].toArray)]) (C:=#[u5,u4]) aD.lasts tq rc rfl rfl rfl rfl (aV Fm (ag (C':=[u5,u4]) rfl rfl rfl rfl rfl (aq))) rfl rc3 rfl (RC.kn aD.knows rc3)) rfl ?_
  rintro v11 Φ_11 D9 ⟨fr9,h11⟩
  replace h11:OSl aD 150 2 Φ_11 ((ob u5++[])++((ob u4++[]))) v11 ([(⟨s6,s5⟩:ac)]:List ac):=by simpa [List.append_assoc] using h11
  replace k7:=k7.f0 fr9
  replace k4:=k4.f0 fr9
  refine wlL [((ob u5++[])++((ob u4++[]))),ob v11,D2,ob u2,D3,ob u3] (smg [1,1] rfl (SP.eq (by simp [List.append_assoc,bm]))) ?_
  obtain ⟨x6,hx6,h⟩:=bs h
  refine le' (kj aD.lasts aD.one tq I2 rfl rfl rfl rfl rfl (js:=[3]) (Rr:=[((ob u5++[])++((ob u4++[]))),ob v11,D2,D3,ob u3]) rfl k4 h11 (fun ap=>ap.q 2 rfl) (fun ap=>ap.q 0 rfl) hx6) rfl ?_
  rintro v12 Φ_12 D10 ⟨⟨ap6,fr10⟩,h12⟩
  replace k7:=k7.fr fr10 (ap6.q 4 rfl) (ap6.q 3 rfl)
  refine wlL [(D2++((ob u5++[])++((ob u4++[])))),ob v12,ob v11,D3,ob u3] (smg [3,1] rfl (SP.eq (by simp)))<|lf yw rfl rfl rfl<|so1 1 HT rfl h12.one ?_
  refine art 6 [] rfl ?_
  exact lb [0,0,1,1] [1,1] (ih1 (_,_,_,_,_,_,_,_) ⟨h,k7,h12⟩)
 refine atr 4 [2] rfl<|soN 1 Cr rfl ⟨k3.one,k4.one,trivial⟩ rfl ?_
 refine en ?_
 exact rtg [3,2,1,0] hF (ao.one (bB ET rfl (fun w1 hw=>hw.rgO (i:=1) rfl 0 2 [u1,u2] rfl) rfl)) rfl (by cases h; exact fun w1 hw=>⟨u1,D1,u2,D2,rfl,rfl,k3,k4⟩)
theorem fR {p2f:Nat} {p2fr:List Value} (w0:ab Ψ Φ []) (p0:(List a8)) (p1:(List a8)) (p2:a8→a8→Option (Bool)) (ph0:RSl be 4 Ψ pG0 pv0 p0) (ph1:RSl be 4 Ψ pG1 pv1 p1) (p2hF:Fun prog p2f=true) (p2h:∀ {Φ':Hp} {w':World},FrH [] Φ Φ'→In Φ' w'→∀ (p2a0:a8) (p2a1:a8) {p2v0_0:Value} {p2G0_0:List Nat} {p2v0_1:Value} {p2G0_1:List Nat} {p2v1_0:Value} {p2G1_0:List Nat} {p2v1_1:Value} {p2G1_1:List Nat} (_:RSl av 3 Φ' p2G0_0 p2v0_0 p2a0.Consts) (_:RSl (RI .i64) 1 Φ' p2G0_1 p2v0_1 p2a0.At) (_:RSl av 3 Φ' p2G1_0 p2v1_0 p2a1.Consts) (_:RSl (RI .i64) 1 Φ' p2G1_1 p2v1_1 p2a1.At) {r:Bool},p2 p2a0 p2a1=some r→Calls prog p2f (([.agg [.string p2a0.Kind,iV p2a0.N,p2v0_0,p2v0_1].toArray,.agg [.string p2a1.Kind,iV p2a1.N,p2v1_0,p2v1_1].toArray]:List Value)++p2fr).toArray w' (rR (.bool r) w')) {r:Bool} (h:aS N p0 p1 p2=some r) :
  CB w0 prog 128 [pv0,pv1,.func (.func p2f) #[] p2fr.toArray] (.bool r):=by
 refine eN func128 rfl ntmps128 rfl w0 fun hF=>?_
 unfold aS at h
 refine atr 8 [] rfl<|lnr ph0 rfl<|la rfl<|lnr ph1 rfl<|la rfl<|en ?_
 refine ch h rfl ?_ ?_ <;> intro h
 ·refine att 4 [] rfl ?_
  exact rt hF h
 refine atr 5 [] rfl<|lnr ph0 rfl<|art 3 [] rfl ?_
 refine lin (σ:=Int) (fun s=>[(1,pv1),(2,.func (.func p2f) #[] p2fr.toArray),(15,pv0),(16,iV (p0.length:Int)),(17,iV s)]) (fun s=>St w0 Φ [] []) (fun m s=>az N p0 p1 p2 m s=some r) (0) N h (sx [] []) (fun n1 ih1 s hm=>?_)
 revert hm; revert s; intro s1 hm
 have h:az N p0 p1 p2 (n1+1) s1=some r:=hm
 show WT _ _ [(1,pv1),(2,.func (.func p2f) #[] p2fr.toArray),(15,pv0),(16,iV (p0.length:Int)),(17,iV s1)] (St w0 Φ [] [])
 unfold az at h
 refine att 5 [] rfl ?_
 refine ch h rfl ?_ ?_ <;> intro h
 ·refine atr 6 [] rfl ?_
  obtain ⟨x1,hx1,h⟩:=bs h
  obtain ⟨cs1,F1,-,g1,hb1,hs1,r1⟩:=ph0.el (a7 hx1).2.2
  obtain ⟨v1,G1,v2,G2,rfl,rfl,h1,h2⟩:=r1
  refine lia ph0 hx1 rfl<|lhx 0 4 g1 rfl<|lnz kX rfl fun b_1=>la rfl<|soN 0 rS rfl ⟨rfl,rfl,h1.one,h2.one,trivial⟩ rfl ?_
  refine arr 5 [] rfl ?_
  obtain ⟨x2,hx2,h⟩:=bs h
  obtain ⟨cs2,F2,-,g2,hb2,hs2,r2⟩:=ph1.el (a7 hx2).2.2
  obtain ⟨v3,G3,v4,G4,rfl,rfl,h3,h4⟩:=r2
  refine lia ph1 hx2 rfl<|lhx 0 4 g2 rfl<|lnz kX rfl fun b_2=>soN 0 rS rfl ⟨rfl,rfl,h3.one,h4.one,trivial⟩ rfl ?_
  refine arr 6 [36,4] rfl ?_
  obtain ⟨x3,hx3,h⟩:=bs h
  refine lp (sN p2hF rfl rfl (fun w1 hw=>p2h hw.frB hw.fro x1 x2 (h1.y hw.up) (h2.y hw.up) (h3.y hw.up) (h4.y hw.up) hx3)) rfl<|la rfl<|en ?_
  refine ch h rfl ?_ ?_ <;> intro h
  ·refine att 4 [] rfl ?_
   exact rt hF h
  refine att 6 [] rfl ?_
  exact lb [] [] (ih1 _ h)
 refine att 5 [] rfl ?_
 exact rt hF h
theorem fS {p2f:Nat} {p2fr:List Value} (w0:ab Ψ Φ []) (p0:(List ac)) (p1:(List ac)) (p2:ac→ac→Option (Bool)) (ph0:RSl bv 2 Ψ pG0 pv0 p0) (ph1:RSl bv 2 Ψ pG1 pv1 p1) (p2hF:Fun prog p2f=true) (p2h:∀ {Φ':Hp} {w':World},FrH [] Φ Φ'→In Φ' w'→∀ (p2a0:ac) (p2a1:ac) {p2v0_0:Value} {p2G0_0:List Nat} {p2v0_1:Value} {p2G0_1:List Nat} {p2v1_0:Value} {p2G1_0:List Nat} {p2v1_1:Value} {p2G1_1:List Nat} (_:RSl (RI .i64) 1 Φ' p2G0_0 p2v0_0 p2a0.Pos) (_:RSl (RI .i64) 1 Φ' p2G0_1 p2v0_1 p2a0.Neg) (_:RSl (RI .i64) 1 Φ' p2G1_0 p2v1_0 p2a1.Pos) (_:RSl (RI .i64) 1 Φ' p2G1_1 p2v1_1 p2a1.Neg) {r:Bool},p2 p2a0 p2a1=some r→Calls prog p2f (([.agg [p2v0_0,p2v0_1].toArray,.agg [p2v1_0,p2v1_1].toArray]:List Value)++p2fr).toArray w' (rR (.bool r) w')) {r:Bool} (h:aR N p0 p1 p2=some r) :
  CB w0 prog 130 [pv0,pv1,.func (.func p2f) #[] p2fr.toArray] (.bool r):=by
 refine eN func130 rfl ntmps130 rfl w0 fun hF=>?_
 unfold aR at h
 refine atr 8 [] rfl<|lnr ph0 rfl<|la rfl<|lnr ph1 rfl<|la rfl<|en ?_
 refine ch h rfl ?_ ?_ <;> intro h
 ·refine att 4 [] rfl ?_
  exact rt hF h
 refine atr 5 [] rfl<|lnr ph0 rfl<|art 3 [] rfl ?_
 refine lin (σ:=Int) (fun s=>[(1,pv1),(2,.func (.func p2f) #[] p2fr.toArray),(15,pv0),(16,iV (p0.length:Int)),(17,iV s)]) (fun s=>St w0 Φ [] []) (fun m s=>ay N p0 p1 p2 m s=some r) (0) N h (sx [] []) (fun n1 ih1 s hm=>?_)
 revert hm; revert s; intro s1 hm
 have h:ay N p0 p1 p2 (n1+1) s1=some r:=hm
 show WT _ _ [(1,pv1),(2,.func (.func p2f) #[] p2fr.toArray),(15,pv0),(16,iV (p0.length:Int)),(17,iV s1)] (St w0 Φ [] [])
 unfold ay at h
 refine att 5 [] rfl ?_
 refine ch h rfl ?_ ?_ <;> intro h
 ·refine atr 6 [] rfl ?_
  obtain ⟨x1,hx1,h⟩:=bs h
  obtain ⟨cs1,F1,-,g1,hb1,hs1,r1⟩:=ph0.el (a7 hx1).2.2
  obtain ⟨v1,G1,v2,G2,rfl,rfl,h1,h2⟩:=r1
  refine lia ph0 hx1 rfl<|lhx 0 2 g1 rfl<|lnz rc rfl fun b_1=>la rfl<|soN 0 wk rfl ⟨h1.one,h2.one,trivial⟩ rfl ?_
  refine arr 5 [] rfl ?_
  obtain ⟨x2,hx2,h⟩:=bs h
  obtain ⟨cs2,F2,-,g2,hb2,hs2,r2⟩:=ph1.el (a7 hx2).2.2
  obtain ⟨v3,G3,v4,G4,rfl,rfl,h3,h4⟩:=r2
  refine lia ph1 hx2 rfl<|lhx 0 2 g2 rfl<|lnz rc rfl fun b_2=>soN 0 wk rfl ⟨h3.one,h4.one,trivial⟩ rfl ?_
  refine arr 6 [34,2] rfl ?_
  obtain ⟨x3,hx3,h⟩:=bs h
  refine lp (sN p2hF rfl rfl (fun w1 hw=>p2h hw.frB hw.fro x1 x2 (h1.y hw.up) (h2.y hw.up) (h3.y hw.up) (h4.y hw.up) hx3)) rfl<|la rfl<|en ?_
  refine ch h rfl ?_ ?_ <;> intro h
  ·refine att 4 [] rfl ?_
   exact rt hF h
  refine att 6 [] rfl ?_
  exact lb [] [] (ih1 _ h)
 refine att 5 [] rfl ?_
 exact rt hF h
theorem ww (w0:ab Ψ Φ []) (p0:ac) (p1:ac) (ph0_0:RSl (RI .i64) 1 Ψ pG0_0 pv0_0 p0.Pos) (ph0_1:RSl (RI .i64) 1 Ψ pG0_1 pv0_1 p0.Neg) (ph1_0:RSl (RI .i64) 1 Ψ pG1_0 pv1_0 p1.Pos) (ph1_1:RSl (RI .i64) 1 Ψ pG1_1 pv1_1 p1.Neg) {r:Bool} (h:ey N p0 p1=some r) :
  CB w0 prog 131 [.agg [pv0_0,pv0_1].toArray,.agg [pv1_0,pv1_1].toArray] (.bool r):=by
 refine eN func131 rfl ntmps131 rfl w0 fun hF=>?_
 unfold ey at h
 refine sr<|lbx rfl fun b_1=>lbx rfl fun b_2=>arr 8 [0,32,0,0] rfl<|qd h (iw N · p0.Pos p1.Pos ph0_0 ph1_0 ·) rfl rfl rfl fun x1 h=>la rfl ?_
 obtain ⟨b1,hb_1,h⟩:=bs h
 refine WL.cutN 6 [(16,.bool b1),(4,.bool false)] ?_ (fun K=>?_)
 rotate_left
 ·refine sp 10 hb_1 rfl (fun hb_1=>?_) fun hb_1=>?_
  ·refine arr 4 [1,32,1,0] rfl<|ly rfl rfl<|qd hb_1 (iw N · p0.Neg p1.Neg ph0_1 ph1_1 ·) rfl rfl rfl fun x2 hb_1=>la rfl ?_
   cases hb_1
   exact ku K
  ·refine arr 6 [] rfl ?_
   cases hb_1
   exact ku K
 refine la rfl<|en ?_
 exact rt hF h
end Go.Proofs.YtkdffjpgnhobhaaGreat
